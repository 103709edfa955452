/- SpanSums: what the proof leans on, part 25 (Qs6 Ss10 Ss17). -/
import Derived.Test.YtfphmlmgjhebjaaGreatDoorKSpanSums22
import Derived.Test.YtfphmlmgjhebjaaGreatDoorKSpanSums24
set_option linter.unusedVariables false
set_option linter.unusedSimpArgs false
namespace Go.Ulp
open Go.RowKit
theorem stk_zero (q : Nat) : stk q 0 = 4 * q := by
  unfold stk
  rw [Nat.pow_zero, Nat.div_one, Nat.mod_one, if_pos rfl, Nat.add_zero]
theorem stk_one (q : Nat) : stk (q * 2 ^ 64 + 1) 64 = 4 * q + 1 := by
  unfold stk
  have h : (2 : Nat) ^ 64 = 18446744073709551616 := rfl
  rw [h, if_neg (by omega)]
  omega
/-- what the reference rounds is what the program rounds -/
theorem ratio_plain (s : Bool) (M N : Nat) (e0 e1 mode : Int) (m0 : 0 ≤ mode) (m1 : mode ≤ 4) (hM : 0 < M) (hN : 0 < N) (b1 : M < 2 ^ 53) (b2 : N < 2 ^ 53) (he : -2100 ≤ e0 - e1 ∧ e0 - e1 ≤ 2100) (K2 : Nat) (hK2 : (K2 : Int) = 2400 + e0 - e1) (q : Nat) (hq : q = M * 2 ^ K2 / N) (more : Int) (hmore : more = if M * 2 ^ K2 % N = 0 then 0 else if s = true then -1 else 1) :
    numX (besNeg s q more) (besM s q more) (besE q (-2400) more) mode = numX s (qst M N (rK M N)) (e0 - e1 - (rK M N : Int) - 2) mode ∧ numC (besNeg s q more) (besM s q more) (besE q (-2400) more) mode = numC s (qst M N (rK M N)) (e0 - e1 - (rK M N : Int) - 2) mode := by
  obtain ⟨p1, p2, p3⟩ := qst_bd M N b1 b2 hM hN
  have big := qfloor_big M N hM hN
  obtain ⟨t, ht⟩ : ∃ t : Nat, K2 = rK M N + t := ⟨K2 - rK M N, by omega⟩
  have e2 := qst_two M N (rK M N) t hN
  rw [← ht] at e2
  have hqb : M * 2 ^ rK M N / N ≤ q := by
    rw [floor_two M N (rK M N) t hN, ← ht, ← hq]; exact Nat.div_le_self _ _
  have p79 : (2 : Nat) ^ 79 = 604462909807314587353088 := rfl
  have hqz : q ≠ 0 := by omega
  -- the finer mark
  have fine : 1152921504606846976 ≤ qst M N K2 / 2 ^ (t + 2) := by
    have h : qst M N K2 / 2 ^ (t + 2) = M * 2 ^ rK M N / N := by
      rw [floor_two M N (rK M N) t hN, ← ht]
      unfold qst
      rw [← hq, show 2 ^ (t + 2) = 4 * 2 ^ t by rw [Nat.pow_add]; omega, ← Nat.div_div_eq_div_mul]
      congr 1
      split <;> omega
    omega
  have g := stk_num s (qst M N K2) (t + 2) (-2402) mode m0 m1 fine
  rw [← e2, show (-2402 + ((t + 2 : Nat) : Int) - 2) = e0 - e1 - (rK M N : Int) - 2 by omega] at g
  rw [g.1, g.2]
  by_cases hz : M * 2 ^ K2 % N = 0
  · rw [if_pos hz] at hmore
    subst hmore
    have c1 : besNeg s q 0 = s := rfl
    have c2 : besM s q 0 = q := rfl
    have c3 : besE q (-2400) 0 = -2400 := rfl
    rw [c1, c2, c3]
    have h := stk_num s q 0 (-2400) mode m0 m1 (by rw [Nat.pow_zero, Nat.div_one]; omega)
    rw [stk_zero, show (-2400 + ((0 : Nat) : Int) - 2) = -2402 from rfl] at h
    have e3 : qst M N K2 = 4 * q := by unfold qst; rw [if_pos hz, ← hq, Nat.add_zero]
    rw [e3, h.1, h.2]
    exact ⟨rfl, rfl⟩
  · rw [if_neg hz] at hmore
    have hm : (more = 1 ∧ s = false) ∨ (more = -1 ∧ s = true) := by
      cases s
      · left; exact ⟨by rw [hmore]; rfl, rfl⟩
      · right; exact ⟨by rw [hmore]; rfl, rfl⟩
    have hm0 : more ≠ 0 := by rcases hm with h | h <;> omega
    have c1 : besNeg s q more = s := by unfold besNeg; rw [if_neg hm0, if_neg hqz]
    have c2 : besM s q more = q * 2 ^ 64 + 1 := by
      unfold besM; rw [if_neg hm0, if_neg hqz, if_pos (by rcases hm with ⟨h, k⟩ | ⟨h, k⟩ <;> rw [h, k] <;> rfl)]
    have c3 : besE q (-2400) more = -2464 := by unfold besE; rw [if_neg hm0, if_neg hqz]; rfl
    rw [c1, c2, c3]
    have h64 : (2 : Nat) ^ 64 = 18446744073709551616 := rfl
    have h := stk_num s (q * 2 ^ 64 + 1) 64 (-2464) mode m0 m1 (by rw [h64]; omega)
    rw [stk_one, show (-2464 + ((64 : Nat) : Int) - 2) = -2402 from rfl] at h
    have e3 : qst M N K2 = 4 * q + 1 := by unfold qst; rw [if_neg hz, ← hq]
    rw [e3, h.1, h.2]
    exact ⟨rfl, rfl⟩
/-- two numbers on one level -/
theorem ab_ratio (D E : Dy) (a b : Int) (K : Nat) (hD : D.1 ≠ 0) (hE : E.1 ≠ 0) (ha : nrm a (-(K : Int)) = D) (hb : nrm b (-(K : Int)) = E) (S K2 : Nat) (hK2 : (K2 : Int) = S + D.2 - E.2) :
    a.natAbs * 2 ^ S / b.natAbs = D.1.natAbs * 2 ^ K2 / E.1.natAbs ∧ (a.natAbs * 2 ^ S % b.natAbs = 0 ↔ D.1.natAbs * 2 ^ K2 % E.1.natAbs = 0) ∧ a ≠ 0 ∧ b ≠ 0 ∧ decide (a < 0) = decide (D.1 < 0) ∧ decide (b < 0) = decide (E.1 < 0) := by
  obtain ⟨k, a1, a2⟩ := nrm_rep a (-(K : Int))
  obtain ⟨l, b1, b2⟩ := nrm_rep b (-(K : Int))
  rw [ha] at a1 a2
  rw [hb] at b1 b2
  have pk := pw_pos k
  have pl := pw_pos l
  have a0 : a ≠ 0 := by rw [a1]; intro h; rcases Int.mul_eq_zero.1 h with h | h; exact hD h; omega
  have b0 : b ≠ 0 := by rw [b1]; intro h; rcases Int.mul_eq_zero.1 h with h | h; exact hE h; omega
  have a3 := a2 a0
  have b3 := b2 b0
  have na : a.natAbs = D.1.natAbs * 2 ^ k := by rw [a1, natAbs_mul_pw]
  have nb : b.natAbs = E.1.natAbs * 2 ^ l := by rw [b1, natAbs_mul_pw]
  have eA : a.natAbs * 2 ^ S = D.1.natAbs * 2 ^ K2 * 2 ^ l := by
    rw [na, Nat.mul_assoc, Nat.mul_assoc, ← Nat.pow_add, ← Nat.pow_add]; congr 2; omega
  have sgn : ∀ (u v : Int) (j : Nat), u = v * pw j → decide (u < 0) = decide (v < 0) := by
    intro u v j h
    have pj := pw_pos j
    rw [Bool.eq_iff_iff, decide_eq_true_eq, decide_eq_true_eq, h]
    constructor
    · intro h1
      rcases Int.lt_or_le v 0 with h2 | h2
      · exact h2
      · have := Int.mul_nonneg h2 (Int.le_of_lt pj); omega
    · intro h1; exact Int.mul_neg_of_neg_of_pos h1 pj
  refine ⟨?_, ?_, a0, b0, sgn a D.1 k a1, sgn b E.1 l b1⟩
  · rw [eA, nb, Nat.mul_div_mul_right _ _ (Nat.two_pow_pos l)]
  · rw [eA, nb, Nat.mul_mod_mul_right]
    have p := Nat.two_pow_pos l
    constructor
    · intro h; rcases Nat.mul_eq_zero.1 h with h | h; exact h; omega
    · intro h; rw [h, Nat.zero_mul]
end Go.Ulp
set_option linter.unusedVariables false
set_option linter.unusedSimpArgs false
namespace Go.Proofs.YtfphmlmgjhebjaaGreatDoor
open Go.RowKit Go.Ulp
set_option linter.unusedVariables false
set_option linter.unusedSimpArgs false
set_option maxHeartbeats 4000000
set_option maxRecDepth 100000
theorem mkQD {t : TypeId} {w : World} {D : Dy} {A T : Nat} {x : Int} {n : Nat} {a : Option Addr} {c : Nat} (h1 : Nz t w a c (zl x)) (h2 : nrm x (-(n : Int)) = D) (h3 : x.natAbs < 2 ^ A) (h4 : n ≤ T) : QD t w D A T (.agg #[.bool (zneg x), .slice a (zl x).length c, .int .i64 (n : Int)]) := ⟨x, n, a, c, rfl, h1, h2, h3, h4⟩
theorem ratioRounded_any (v u : Value) (D E : Dy) (mode : Int) (w : World) (hv : QD 3 w D 1200 1100 v) (hu : QD 3 w E 1200 1100 u) (hD : D.1 ≠ 0) (hE : E.1 ≠ 0) (m0 : 0 ≤ mode) (m1 : mode ≤ 4) (b1 : D.1.natAbs < 2 ^ 53) (b2 : E.1.natAbs < 2 ^ 53) (he : -2100 ≤ D.2 - E.2 ∧ D.2 - E.2 ≤ 2100) :
    Calls Tryz.prog 63 #[v, u, .int .i64 mode] w (RetX w (numX (decide (D.1 < 0) != decide (E.1 < 0)) (qst D.1.natAbs E.1.natAbs (rK D.1.natAbs E.1.natAbs)) (D.2 - E.2 - (rK D.1.natAbs E.1.natAbs : Int) - 2) mode) (numC (decide (D.1 < 0) != decide (E.1 < 0)) (qst D.1.natAbs E.1.natAbs (rK D.1.natAbs E.1.natAbs)) (D.2 - E.2 - (rK D.1.natAbs E.1.natAbs : Int) - 2) mode)) := by
  obtain ⟨A0, hA0⟩ : ∃ A : Nat, A = 1200 := ⟨_, rfl⟩
  obtain ⟨B, hB⟩ : ∃ B : Nat, B = 2300 := ⟨_, rfl⟩
  rw [← hA0] at hv hu
  obtain ⟨X, ta, ax, cx, rfl, hNX, hDX, hAX, hTX⟩ := hv
  obtain ⟨Y, tb, ay, cy, rfl, hNY, hDY, hAY, hTY⟩ := hu
  obtain ⟨K2, hK2⟩ : ∃ K2 : Nat, (K2 : Int) = 2400 + D.2 - E.2 := ⟨(2400 + D.2 - E.2).toNat, by omega⟩
  have lX := zl_len_bits X A0 hAX
  have lY := zl_len_bits Y A0 hAY
  have LV := hid (fun w h0 h1 => level_any ax ay cx cy X Y ta tb w h0 h1 (by omega) (by omega) (by omega) (by omega))
  have ea := lev_nrm X ta (max ta tb) (by omega)
  have eb := lev_nrm Y tb (max ta tb) (by omega)
  rw [hDX] at ea
  rw [hDY] at eb
  have ba := abs_weak (abs_mul_pw_lt (k := max ta tb - ta) hAX) (show A0 + (max ta tb - ta) ≤ B by omega)
  have bb := abs_weak (abs_mul_pw_lt (k := max ta tb - tb) hAY) (show A0 + (max ta tb - tb) ≤ B by omega)
  obtain ⟨K, hK⟩ : ∃ K, K = max ta tb := ⟨_, rfl⟩
  obtain ⟨a, ha⟩ : ∃ a, a = X * pw (max ta tb - ta) := ⟨_, rfl⟩
  obtain ⟨b, hb⟩ : ∃ b, b = Y * pw (max ta tb - tb) := ⟨_, rfl⟩
  rw [← ha, ← hK] at ea
  rw [← hb, ← hK] at eb
  rw [← ha] at ba
  rw [← hb] at bb
  rw [← ha, ← hb, ← hK] at LV
  obtain ⟨S, hS⟩ : ∃ S : Nat, S = 2400 := ⟨_, rfl⟩
  obtain ⟨r1, r2, r3, r4, r5, r6⟩ := ab_ratio D E a b K hD hE ea eb S K2 (by omega)
  obtain ⟨Q, hQ⟩ : ∃ Q : Nat, Q = D.1.natAbs * 2 ^ K2 / E.1.natAbs := ⟨_, rfl⟩
  obtain ⟨R, hR⟩ : ∃ R : Nat, R = a.natAbs * 2 ^ S % b.natAbs := ⟨_, rfl⟩
  rw [← hQ] at r1
  rw [← hR] at r2
  have QA : Q ≤ a.natAbs * 2 ^ S := by rw [← r1]; exact Nat.div_le_self _ _
  have QB : a.natAbs * 2 ^ S < 2 ^ (B + S) := by
    rw [Nat.pow_add]; exact Nat.mul_lt_mul_of_pos_right ba (Nat.two_pow_pos S)
  have RB : R < b.natAbs := by rw [hR]; exact Nat.mod_lt _ (by omega)
  obtain ⟨s, hs⟩ : ∃ s, s = (decide (D.1 < 0) != decide (E.1 < 0)) := ⟨_, rfl⟩
  have hzs : (!(zneg a == zneg b)) = s := by
    rw [hs]; show (decide (a < 0) != decide (b < 0)) = _
    rw [r5, r6]
  obtain ⟨more, hmore⟩ : ∃ m : Int, m = if R = 0 then 0 else if s = true then -1 else 1 := ⟨_, rfl⟩
  have PL := ratio_plain s D.1.natAbs E.1.natAbs D.2 E.2 mode m0 m1 (by omega) (by omega) b1 b2 he K2 hK2 Q hQ more (by
    rw [hmore]
    by_cases h : R = 0
    · rw [if_pos h, if_pos (r2.1 h)]
    · rw [if_neg h, if_neg (fun h9 => h (r2.2 h9))])
  have RD := hid (show ∀ v w, QD 3 w (nrm (sg s (Q : Int)) (-2400)) (B + S) S v → Calls Tryz.prog 58 #[v, .int .i64 more, .int .i64 mode] w (RetX w (numX s (qst D.1.natAbs E.1.natAbs (rK D.1.natAbs E.1.natAbs)) (D.2 - E.2 - (rK D.1.natAbs E.1.natAbs : Int) - 2) mode) (numC s (qst D.1.natAbs E.1.natAbs (rK D.1.natAbs E.1.natAbs)) (D.2 - E.2 - (rK D.1.natAbs E.1.natAbs : Int) - 2) mode)) from fun v w h => by
    have h9 := roundedN_any v s Q (-2400) (B + S) S more mode w h (by omega) (by omega) (by rw [hmore]; split; exact .inr (.inl rfl); split; exact .inl rfl; exact .inr (.inr rfl)) m0 m1 (fun h0 => by
      have hbig := qfloor_big D.1.natAbs E.1.natAbs (by omega) (by omega)
      obtain ⟨-, -, p3⟩ := qst_bd D.1.natAbs E.1.natAbs b1 b2 (by omega) (by omega)
      obtain ⟨t, ht⟩ : ∃ t : Nat, K2 = rK D.1.natAbs E.1.natAbs + t := ⟨K2 - rK D.1.natAbs E.1.natAbs, by omega⟩
      rw [floor_two _ _ _ t (by omega), ← ht, ← hQ, h0, Nat.zero_div] at hbig
      exact absurd hbig (by decide))
    rw [PL.1, PL.2] at h9
    exact h9)
  rw [← hs]
  have la := zl_len_bits a B ba
  have lb := zl_len_bits b B bb
  have laa : (zl (a.natAbs : Int)).length ≤ B := zl_len_bits _ B (by rw [Int.natAbs_natCast]; exact ba)
  have lbb : (zl (b.natAbs : Int)).length ≤ B := zl_len_bits _ B (by rw [Int.natAbs_natCast]; exact bb)
  obtain ⟨P9, hP9⟩ : ∃ p, p = pw S := ⟨_, rfl⟩
  have lP : (zl P9).length ≤ S + 1 := zl_len_bits _ (S + 1) (by rw [hP9, pw_abs]; exact Nat.pow_lt_pow_right (by omega) (by omega))
  have lM : (zl ((a.natAbs : Int) * P9)).length ≤ B + S := zl_len_bits _ (B + S) (by rw [Int.natAbs_mul, Int.natAbs_natCast, hP9, pw_abs]; exact QB)
  have ZA := hid (fun a1 c1 w h => zabs_any a1 c1 a w h)
  have ZB := hid (fun a1 c1 w h => zabs_any a1 c1 b w h)
  have ZP := hid (show ∀ w, Calls Tryz.prog 120 #[.int .i64 2400] w fun e w' => RetZ 3 w P9 e w' from fun w => by
    have h9 := zpow_any S w (by omega)
    rw [hS] at h9
    rw [hP9, hS]; exact h9)
  have ZM := hid (fun a1 a2 c1 c2 w h0 h1 => zmul_any a1 a2 c1 c2 (a.natAbs : Int) P9 w h0 h1 (by omega) (by omega))
  have ZD := hid (show ∀ a1 a2 c1 c2 w, Nz 3 w a1 c1 (zl ((a.natAbs : Int) * P9)) → Nz 3 w a2 c2 (zl (b.natAbs : Int)) → Calls Tryz.prog 118 #[.agg #[.bool (zneg ((a.natAbs : Int) * P9)), .slice a1 (zl ((a.natAbs : Int) * P9)).length c1], .agg #[.bool (zneg (b.natAbs : Int)), .slice a2 (zl (b.natAbs : Int)).length c2]] w fun e w' => RetZ2 3 w (Q : Int) (R : Int) e w' from fun a1 a2 c1 c2 w h0 h1 => by
    have h9 := zdiv_any a1 a2 c1 c2 ((a.natAbs : Int) * P9) (b.natAbs : Int) w h0 h1 (by omega) (by omega) (by omega)
    have e1 : (a.natAbs : Int) * P9 = ((a.natAbs * 2 ^ S : Nat) : Int) := by rw [hP9, pw_nat, Int.natCast_mul]
    have e2 : (a.natAbs : Int) * P9 / (b.natAbs : Int) = (Q : Int) := by rw [e1, ← Int.natCast_ediv, r1]
    have e3 : (a.natAbs : Int) * P9 % (b.natAbs : Int) = (R : Int) := by rw [e1, ← Int.natCast_emod, hR]
    rw [e2, e3] at h9
    exact h9)
  have NQ := hid (show ∀ n : Bool, nrm (sg n (Q : Int)) (-2400) = nrm (sg n (Q : Int)) (-(S : Int)) from fun n => by rw [hS]; rfl)
  have lQ := zl_len_bits (Q : Int) (B + S) (by rw [Int.natAbs_natCast]; omega)
  have QBB : (Q : Int).natAbs < 2 ^ (B + S) := by rw [Int.natAbs_natCast]; omega
  have HM := hid hmore
  have HZS := hid hzs
  generalize numX s (qst D.1.natAbs E.1.natAbs (rK D.1.natAbs E.1.natAbs)) (D.2 - E.2 - (rK D.1.natAbs E.1.natAbs : Int) - 2) mode = FX at *
  generalize numC s (qst D.1.natAbs E.1.natAbs (rK D.1.natAbs E.1.natAbs)) (D.2 - E.2 - (rK D.1.natAbs E.1.natAbs : Int) - 2) mode = FC at *
  clear hDX hDY hAX hAY hTX hTY ea eb ha hb hK r1 r2 r5 r6 hQ hR QA QB RB hs hzs hmore PL hP9 lX lY la lb laa lbb lP lM ba bb hA0
  have HNX := hid hNX
  have HNY := hid hNY
  have zA : QL 33 ((w.alloc (.cells #[.bool (zneg X), .slice ax (zl X).length cx, .int .i64 (ta : Int)] 33)).alloc (.cells #[.bool (zneg Y), .slice ay (zl Y).length cy, .int .i64 (tb : Int)] 33)) w.heap.size (zneg X) (.slice ax (zl X).length cx) (ta : Int) := (QL.made rfl).alloc _
  have zB : QL 33 ((w.alloc (.cells #[.bool (zneg X), .slice ax (zl X).length cx, .int .i64 (ta : Int)] 33)).alloc (.cells #[.bool (zneg Y), .slice ay (zl Y).length cy, .int .i64 (tb : Int)] 33)) (w.heap.size + 1) (zneg Y) (.slice ay (zl Y).length cy) (tb : Int) := QL.made (by first | omega | (simp; done) | (simp; omega))
  have yb0 : Below w.heap.size w ((w.alloc (.cells #[.bool (zneg X), .slice ax (zl X).length cx, .int .i64 (ta : Int)] 33)).alloc (.cells #[.bool (zneg Y), .slice ay (zl Y).length cy, .int .i64 (tb : Int)] 33)) := by (repeat' (first | (with_reducible assumption) | (with_reducible exact Below.refl _ _) | (with_reducible refine below_al ?_ _) | (with_reducible refine below_drewN ?_ _) | (with_reducible refine Below.drew ?_) | (with_reducible refine Below.alloc ?_ ?_ _) | (with_reducible refine Below.setCell ?_ ?_ _) | (refine below_trans ?_ (by assumption)) | go_size))
  clear hNX hNY
  obtain ⟨⟨j0, j1, -, -, -⟩, j2, -⟩ := id zA
  obtain ⟨⟨l0, l1, -, -, -⟩, l2, -⟩ := id zB
  go_enter Tryz.func63, Tryz.ntmps63
  go_upto_region 2 with (go_at_call 116; (with_reducible refine (LV.out _ (HNX.out.below yb0) (HNY.out.below yb0)).mono ?_); rintro en w4 ⟨ao, ac, bo, bc, rfl, hA4, hB4, hb4⟩)
  have z8 : ZL 31 ((w4.alloc (.cells #[.bool (zneg a), .slice ao (zl a).length ac] 31)).alloc (.cells #[.bool (zneg b), .slice bo (zl b).length bc] 31)) w4.heap.size (zneg a) (.slice ao (zl a).length ac) := (ZL.made rfl).alloc _
  have z9 : ZL 31 ((w4.alloc (.cells #[.bool (zneg a), .slice ao (zl a).length ac] 31)).alloc (.cells #[.bool (zneg b), .slice bo (zl b).length bc] 31)) (w4.heap.size + 1) (zneg b) (.slice bo (zl b).length bc) := ZL.made (by simp)
  have ya := below_trans (below_alloc w4 (.cells #[.bool (zneg a), .slice ao (zl a).length ac] 31)) (below_alloc _ (.cells #[.bool (zneg b), .slice bo (zl b).length bc] 31))
  have hA5 := hA4.below ya
  have hB5 := hB4.below ya
  have yb := below_trans (below_trans yb0 hb4) ya
  obtain ⟨W1, hW1⟩ : ∃ Y, Y = (w4.alloc (.cells #[.bool (zneg a), .slice ao (zl a).length ac] 31)).alloc (.cells #[.bool (zneg b), .slice bo (zl b).length bc] 31) := ⟨_, rfl⟩
  obtain ⟨g8, hg8⟩ : ∃ g, g = w4.heap.size := ⟨_, rfl⟩
  obtain ⟨g9, hg9⟩ : ∃ g, g = w4.heap.size + 1 := ⟨_, rfl⟩
  rw [← hW1, ← hg8] at z8
  rw [← hW1, ← hg9] at z9
  rw [← hW1] at hA5 hB5 yb
  rw [← hW1, ← hg9, ← hg8]
  have HA5 := hid hA5
  have HB5 := hid hB5
  clear hW1 hg8 hg9 ya hA4 hB4 hA5 hB5 hb4 zA zB yb0 LV j0 j1 j2 l0 l1 l2
  obtain ⟨j0, j1, -, -, -⟩ := id z8
  obtain ⟨l0, l1, -, -, -⟩ := id z9
  go_upto_region 3 with fail
  rw [HZS.out]
  clear j0 j1 l0 l1
  refine wp_region_growL 12 9 [29, 30, 31, 32, 33, 34, 35, 28, 36, 37, 12, 13] [Fact.is (.agg #[.bool (zneg a), .slice ao (zl a).length ac]), Fact.z 3 (a.natAbs : Int), Fact.z 3 P9, Fact.z 3 ((a.natAbs : Int) * P9), Fact.is (.agg #[.bool (zneg b), .slice bo (zl b).length bc]), Fact.z 3 (b.natAbs : Int), Fact.z2 3 (Q : Int) (R : Int), Fact.z2 3 (Q : Int) (R : Int), Fact.z 3 (Q : Int), Fact.z 3 (R : Int), Fact.z0 W1.heap.size 31, Fact.z0 W1.heap.size 31] [10, 11] (by kernel_rfl) (by kernel_rfl) rfl ⟨?o0, ?o1, ?o2, ?o3, ?o4, ?o5, ?o6, ?o7, ?o8, ?o9, ?o10, ?o11, trivial⟩ ?late (fun d _ _ _ _ h => by cases d <;> exact h) ?after
  case o0 => (refine StepOKF.plain rfl ?_; intro ρ w1 R hρ hb hp hR; have e8 : ρ (.tmp 8) = .pointer (some ⟨g8, 0, none⟩) := hρ.tmp 8 rfl; obtain ⟨j0, j1, -, -, -⟩ := z8.below hb; replace hR := fun v w2 h1 h2 => hR v w2 h1 h2 (fun h => absurd h (by decide)); have hcon := hρ.con; have hfn := hρ.fn; clear hρ hp; unfold OpRun; go_simp; exact hR _ _ (Below.refl _ _) rfl)
  case o1 => (refine StepOKF.plain rfl ?_; intro ρ w1 R hρ hb hp hR; have e29 : ρ (.tmp 29) = _ := hp 0 29 rfl rfl; replace hR := fun v w2 h1 h2 => hR v w2 h1 h2 (fun h => absurd h (by decide)); have hcon := hρ.con; have hfn := hρ.fn; clear hρ hp; unfold OpRun; go_simp; (refine (ZA.out _ _ _ (HA5.out.below hb)).mono ?_; rintro e wn ⟨az, cz, rfl, hz9, hbn⟩; exact ⟨_, rfl, hR _ _ hbn ⟨az, cz, rfl, hz9⟩⟩))
  case o2 => (refine StepOKF.plain rfl ?_; intro ρ w1 R hρ hb hp hR; replace hR := fun v w2 h1 h2 => hR v w2 h1 h2 (fun h => absurd h (by decide)); have hcon := hρ.con; have hfn := hρ.fn; clear hρ hp; unfold OpRun; go_simp; (refine (ZP.out _).mono ?_; rintro e wn ⟨az, cz, rfl, hz9, hbn⟩; exact ⟨_, rfl, hR _ _ hbn ⟨az, cz, rfl, hz9⟩⟩))
  case o3 => (refine StepOKF.plain rfl ?_; intro ρ w1 R hρ hb hp hR; have f30 := hp 1 30 rfl rfl; have f31 := hp 2 31 rfl rfl; (obtain ⟨a30, c30, e30, hz30⟩ := f30; obtain ⟨a31, c31, e31, hz31⟩ := f31); replace hR := fun v w2 h1 h2 => hR v w2 h1 h2 (fun h => absurd h (by decide)); have hcon := hρ.con; have hfn := hρ.fn; clear hρ hp; unfold OpRun; go_simp; (skip; refine (ZM.out _ _ _ _ _ hz30 hz31).mono ?_; rintro e wn ⟨az, cz, rfl, hz9, hbn⟩; exact ⟨_, rfl, hR _ _ hbn ⟨az, cz, rfl, hz9⟩⟩))
  case o4 => (refine StepOKF.plain rfl ?_; intro ρ w1 R hρ hb hp hR; have e9 : ρ (.tmp 9) = .pointer (some ⟨g9, 0, none⟩) := hρ.tmp 9 rfl; obtain ⟨j0, j1, -, -, -⟩ := z9.below hb; replace hR := fun v w2 h1 h2 => hR v w2 h1 h2 (fun h => absurd h (by decide)); have hcon := hρ.con; have hfn := hρ.fn; clear hρ hp; unfold OpRun; go_simp; exact hR _ _ (Below.refl _ _) rfl)
  case o5 => (refine StepOKF.plain rfl ?_; intro ρ w1 R hρ hb hp hR; have e33 : ρ (.tmp 33) = _ := hp 4 33 rfl rfl; replace hR := fun v w2 h1 h2 => hR v w2 h1 h2 (fun h => absurd h (by decide)); have hcon := hρ.con; have hfn := hρ.fn; clear hρ hp; unfold OpRun; go_simp; (refine (ZB.out _ _ _ (HB5.out.below hb)).mono ?_; rintro e wn ⟨az, cz, rfl, hz9, hbn⟩; exact ⟨_, rfl, hR _ _ hbn ⟨az, cz, rfl, hz9⟩⟩))
  case o6 => (refine StepOKF.plain rfl ?_; intro ρ w1 R hρ hb hp hR; have f32 := hp 3 32 rfl rfl; have f34 := hp 5 34 rfl rfl; (obtain ⟨a32, c32, e32, hz32⟩ := f32; obtain ⟨a34, c34, e34, hz34⟩ := f34); replace hR := fun v w2 h1 h2 => hR v w2 h1 h2 (fun h => absurd h (by decide)); have hcon := hρ.con; have hfn := hρ.fn; clear hρ hp; unfold OpRun; go_simp; (skip; refine (ZD.out _ _ _ _ _ hz32 hz34).mono ?_; rintro e wn ⟨ao, cap, bo, cbp, rfl, hq, hr, hbn⟩; exact ⟨_, rfl, hR _ _ hbn ⟨ao, cap, bo, cbp, rfl, hq, hr⟩⟩))
  case o7 => (refine StepOKF.plain rfl ?_; intro ρ w1 R hρ hb hp hR; have f35 := hp 6 35 rfl rfl; replace hR := fun v w2 h1 h2 => hR v w2 h1 h2 (fun h => absurd h (by decide)); have hcon := hρ.con; have hfn := hρ.fn; clear hρ hp; unfold OpRun; go_simp; exact hR _ _ (Below.refl _ _) f35)
  case o8 => (refine StepOKF.plain rfl ?_; intro ρ w1 R hρ hb hp hR; have f28 := hp 7 28 rfl rfl; replace hR := fun v w2 h1 h2 => hR v w2 h1 h2 (fun h => absurd h (by decide)); have hcon := hρ.con; have hfn := hρ.fn; clear hρ hp; unfold OpRun; go_simp; (obtain ⟨ao, cap, bo, cbp, e12, hq, hr⟩ := f28; rw [e12]; exact hR _ _ (Below.refl _ _) ⟨_, _, rfl, hq⟩))
  case o9 => (refine StepOKF.plain rfl ?_; intro ρ w1 R hρ hb hp hR; have f28 := hp 7 28 rfl rfl; replace hR := fun v w2 h1 h2 => hR v w2 h1 h2 (fun h => absurd h (by decide)); have hcon := hρ.con; have hfn := hρ.fn; clear hρ hp; unfold OpRun; go_simp; (obtain ⟨ao, cap, bo, cbp, e12, hq, hr⟩ := f28; rw [e12]; exact hR _ _ (Below.refl _ _) ⟨_, _, rfl, hr⟩))
  case o10 => (refine StepOKF.plain rfl ?_; intro ρ w1 R hρ hb hp hR; have hcon := hρ.con; have hfn := hρ.fn; clear hρ hp; unfold OpRun; go_simp; exact hR _ _ (below_alloc _ _) ⟨_, rfl, hb.size, ZL.made rfl⟩ (fun _ => ⟨_, rfl, Nat.le_refl _, by simp⟩))
  case o11 => (refine StepOKF.plain rfl ?_; intro ρ w1 R hρ hb hp hR; have hcon := hρ.con; have hfn := hρ.fn; clear hρ hp; unfold OpRun; go_simp; exact hR _ _ (below_alloc _ _) ⟨_, rfl, hb.size, ZL.made rfl⟩ (fun _ => ⟨_, rfl, Nat.le_refl _, by simp⟩))
  case late =>
    intro o ho
    simp only [List.getElem?_cons_succ, List.getElem?_cons_zero, Option.some.injEq] at ho
    subst ho
    refine ⟨rfl, ?_⟩
    intro ρ w1 hρ hb hp
    have f28 := hp 7 28 rfl rfl
    obtain ⟨ao, cap, bo, cbp, e28, hq, hr⟩ := f28
    refine ⟨_, ?_, ⟨_, _, rfl, hr⟩⟩
    intro w2
    have hcon := hρ.con
    go_simp
    try rfl
  case after =>
    intro u wn hb hf hd
    have f36 := hf 8 36 (by omega) rfl
    have f37 := hf 9 37 (by omega) rfl
    have f12 := hf 10 12 (by omega) rfl
    have f13 := hf 11 13 (by omega) rfl
    have d12_13 : u 12 ≠ u 13 := hd 10 11 12 13 (by omega) (by omega) (by omega) rfl rfl rfl rfl
    clear hf hd
    simp only [putAll, Act.put, List.setIfInBounds_toArray, List.set_cons_zero, List.set_cons_succ, List.drop_succ_cons, List.drop_zero, List.drop_nil]
    obtain ⟨qa, qc, e36, hq⟩ := f36
    obtain ⟨ra, rc, e37, hr⟩ := f37
    obtain ⟨g12, e12, hg12, z12⟩ := f12
    obtain ⟨g13, e13, hg13, z13⟩ := f13
    have h34 : g12 ≠ g13 := by intro h; apply d12_13; rw [e12, e13, h]
    have h43 := h34.symm
    rw [e36, e37, e12, e13]
    clear e36 e37 e12 e13 d12_13
    obtain ⟨a60, a61, af0, af1, as6⟩ := id z12
    obtain ⟨b70, b71, bf0, bf1, bs7⟩ := id z13
    go_upto_region 4 with fail
    have zQ := ((((z12.set0 (zneg (Q : Int))).set1 (.slice qa (zl (Q : Int)).length qc)).far ⟨g13, 0, none⟩ (.bool (zneg (R : Int))) h34).far ⟨g13, 1, none⟩ (.slice ra (zl (R : Int)).length rc) h34)
    have zT := (((z13.far ⟨g12, 0, none⟩ (.bool (zneg (Q : Int))) h43).far ⟨g12, 1, none⟩ (.slice qa (zl (Q : Int)).length qc) h43).set0 (zneg (R : Int))).set1 (.slice ra (zl (R : Int)).length rc)
    have hq2 := (hq.st2 as6 (by decide) (.bool (zneg (Q : Int))) (.slice qa (zl (Q : Int)).length qc)).st2 ((bs7.setCell _ _).setCell _ _) (by decide) (.bool (zneg (R : Int))) (.slice ra (zl (R : Int)).length rc)
    have hr2 := (hr.st2 as6 (by decide) (.bool (zneg (Q : Int))) (.slice qa (zl (Q : Int)).length qc)).st2 ((bs7.setCell _ _).setCell _ _) (by decide) (.bool (zneg (R : Int))) (.slice ra (zl (R : Int)).length rc)
    have hbS := (((hb.setCell (p := ⟨g12, 0, none⟩) hg12 (.bool (zneg (Q : Int)))).setCell (p := ⟨g12, 1, none⟩) hg12 (.slice qa (zl (Q : Int)).length qc)).setCell (p := ⟨g13, 0, none⟩) hg13 (.bool (zneg (R : Int)))).setCell (p := ⟨g13, 1, none⟩) hg13 (.slice ra (zl (R : Int)).length rc)
    obtain ⟨W2, hW2⟩ : ∃ W, W = ((((wn.setCell ⟨g12, 0, none⟩ (.bool (zneg (Q : Int)))).setCell ⟨g12, 1, none⟩ (.slice qa (zl (Q : Int)).length qc)).setCell ⟨g13, 0, none⟩ (.bool (zneg (R : Int)))).setCell ⟨g13, 1, none⟩ (.slice ra (zl (R : Int)).length rc)) := ⟨_, rfl⟩
    rw [← hW2] at zQ zT hq2 hr2 hbS ⊢
    have yb2 := below_trans yb hbS
    clear hW2 a60 a61 af0 af1 as6 b70 b71 bf0 bf1 bs7 z12 z13 hq hr hb hbS ZA ZB ZP ZM ZD HA5 HB5 z8 z9 yb HNX HNY HZS h34 h43
    obtain ⟨l0, l1, -, -, -⟩ := id zQ
    go_upto_region 5 with fail
    have ya := below_alloc W2 (.cells #[.bool (zneg (Q : Int)), .slice qa (zl (Q : Int)).length qc, .int .i64 2400] 33)
    have z14 : QL 33 (W2.alloc (.cells #[.bool (zneg (Q : Int)), .slice qa (zl (Q : Int)).length qc, .int .i64 2400] 33)) W2.heap.size (zneg (Q : Int)) (.slice qa (zl (Q : Int)).length qc) 2400 := QL.made rfl
    have zT3 := zT.below ya
    have HQ3 := hid (hq2.below ya)
    have HR3 := hid (hr2.below ya)
    have yb3 := below_trans yb2 ya
    have hg14 : w.heap.size ≤ W2.heap.size := yb2.size
    obtain ⟨W3, hW3⟩ : ∃ W, W = W2.alloc (.cells #[.bool (zneg (Q : Int)), .slice qa (zl (Q : Int)).length qc, .int .i64 2400] 33) := ⟨_, rfl⟩
    obtain ⟨g14, hg14e⟩ : ∃ g, g = W2.heap.size := ⟨_, rfl⟩
    rw [← hW3, ← hg14e] at z14
    rw [← hW3] at zT3 HQ3 HR3 yb3
    rw [← hg14e] at hg14
    rw [← hW3, ← hg14e]
    have HQD := hid (show ∀ w', Nz 3 w' qa qc (zl (Q : Int)) → QD 3 w' (nrm (sg false (Q : Int)) (-2400)) (B + S) S (.agg #[.bool (zneg (Q : Int)), .slice qa (zl (Q : Int)).length qc, .int .i64 2400]) from fun w' h => ⟨(Q : Int), S, qa, qc, by rw [hS]; rfl, h, by rw [hS]; rfl, QBB, Nat.le_refl _⟩)
    have NG := hid (show ∀ w', Nz 3 w' qa qc (zl (Q : Int)) → Calls Tryz.prog 14 #[.agg #[.bool (zneg (Q : Int)), .slice qa (zl (Q : Int)).length qc, .int .i64 2400]] w' fun e w2 => RetQD 3 w2 (nrm (sg true (Q : Int)) (-2400)) (B + S) S e w2 ∧ Below w'.heap.size w' w2 from fun w' h => (qneg_any _ _ (B + S) S w' (HQD.out w' h) (by omega) (by omega)).mono fun e w2 ⟨v, k1, k2, k3⟩ => ⟨⟨v, k1, by rw [← nrm_neg] at k2; exact k2, Below.refl _ _⟩, k3⟩)
    have ZS := hid (fun w h => zsign_any ra rc (R : Int) w h)
    clear hW3 hg14e zQ zT hq2 hr2 ya yb2 l0 l1 NQ lQ QBB
    obtain ⟨c9, hc9⟩ : ∃ c, c = cmpI (R : Int) 0 := ⟨_, rfl⟩
    rw [← hc9] at ZS
    obtain ⟨j0, j1, -, -, -⟩ := id zT3
    by_cases hR0 : R = 0
    · have hc0 : c9 = 0 := by rw [hc9, hR0]; rfl
      subst hc0
      have hm0 : more = 0 := by rw [HM.out, if_pos hR0]
      subst hm0
      clear hc9 hR0 HM
      cases s
      · go_wp2_with (first
          | (go_at_call 121; (with_reducible refine (ZS.out _ HR3.out).mono ?_); rintro en w6 ⟨rfl, hb6⟩; have z14b := z14.below hb6; obtain ⟨⟨k0, k1, -, -, -⟩, k2, -⟩ := id z14b)
          | (go_at_call 58; (with_reducible refine (RD.out _ _ (HQD.out _ (HQ3.out.below hb6))).mono ?_); rintro en w9 ⟨rfl, hb9⟩))
        go_ret2
        exact ⟨rfl, below_trans (below_trans yb3 hb6) hb9⟩
      · go_wp2_with (first
          | (go_at_call 121; (with_reducible refine (ZS.out _ HR3.out).mono ?_); rintro en w6 ⟨rfl, hb6⟩; have z14b := z14.below hb6; obtain ⟨⟨k0, k1, -, -, -⟩, k2, -⟩ := id z14b)
          | (go_at_call 14; (with_reducible refine (NG.out _ (HQ3.out.below hb6)).mono ?_); rintro en w8 ⟨⟨v8, rfl, ⟨x8, n8, a8, c8, rfl, hN8, hD8, hA8, hT8⟩, -⟩, hb8⟩; have z14c := z14b.below hb8; have hN9 := hN8.set3Q z14c (by decide) (.bool (zneg x8)) (.slice a8 (zl x8).length c8) (.int .i64 (n8 : Int)); obtain ⟨⟨m0', m1', f0', f1', -⟩, m2', f2'⟩ := id z14c; have HD8 := hid hD8; clear hD8)
          | (go_at_call 58; (with_reducible refine (RD.out _ _ (mkQD hN9 HD8.out hA8 hT8)).mono ?_); rintro en w9 ⟨rfl, hb9⟩))
        go_ret2
        exact ⟨rfl, below_trans (Go.Ulp.Below.put3 (below_trans (below_trans yb3 hb6) hb8) (g := g14) hg14 _ _ _) hb9⟩
    · have hc0 : c9 = 1 := by rw [hc9]; exact cmpI_g (by omega)
      subst hc0
      cases s
      · have hm0 : more = 1 := by rw [HM.out, if_neg hR0]; rfl
        subst hm0
        clear hc9 hR0 HM
        go_wp2_with (first
          | (go_at_call 121; (with_reducible refine (ZS.out _ HR3.out).mono ?_); rintro en w6 ⟨rfl, hb6⟩; have z14b := z14.below hb6; obtain ⟨⟨k0, k1, -, -, -⟩, k2, -⟩ := id z14b)
          | (go_at_call 58; (with_reducible refine (RD.out _ _ (HQD.out _ (HQ3.out.below hb6))).mono ?_); rintro en w9 ⟨rfl, hb9⟩))
        go_ret2
        exact ⟨rfl, below_trans (below_trans yb3 hb6) hb9⟩
      · have hm0 : more = -1 := by rw [HM.out, if_neg hR0]; rfl
        subst hm0
        clear hc9 hR0 HM
        go_wp2_with (first
          | (go_at_call 121; (with_reducible refine (ZS.out _ HR3.out).mono ?_); rintro en w6 ⟨rfl, hb6⟩; have z14b := z14.below hb6; obtain ⟨⟨k0, k1, -, -, -⟩, k2, -⟩ := id z14b)
          | (go_at_call 14; (with_reducible refine (NG.out _ (HQ3.out.below hb6)).mono ?_); rintro en w8 ⟨⟨v8, rfl, ⟨x8, n8, a8, c8, rfl, hN8, hD8, hA8, hT8⟩, -⟩, hb8⟩; have z14c := z14b.below hb8; have hN9 := hN8.set3Q z14c (by decide) (.bool (zneg x8)) (.slice a8 (zl x8).length c8) (.int .i64 (n8 : Int)); obtain ⟨⟨m0', m1', f0', f1', -⟩, m2', f2'⟩ := id z14c; have HD8 := hid hD8; clear hD8)
          | (go_at_call 58; (with_reducible refine (RD.out _ _ (mkQD hN9 HD8.out hA8 hT8)).mono ?_); rintro en w9 ⟨rfl, hb9⟩))
        go_ret2
        exact ⟨rfl, below_trans (Go.Ulp.Below.put3 (below_trans (below_trans yb3 hb6) hb8) (g := g14) hg14 _ _ _) hb9⟩
end Go.Proofs.YtfphmlmgjhebjaaGreatDoor
set_option linter.unusedVariables false
set_option linter.unusedSimpArgs false
namespace Go.Proofs.YtfphmlmgjhebjaaGreatDoor
open Go.RowKit Go.Ulp
set_option linter.unusedVariables false
set_option linter.unusedSimpArgs false
set_option maxHeartbeats 4000000
set_option maxRecDepth 100000
end Go.Proofs.YtfphmlmgjhebjaaGreatDoor

set_option linter.unusedVariables false
set_option linter.unusedSimpArgs false
namespace Go.Ulp
open Go.RowKit
def qeN (D E : Dy) (mode : Int) : Int := numX (decide (D.1 < 0) != decide (E.1 < 0)) (qst D.1.natAbs E.1.natAbs (rK D.1.natAbs E.1.natAbs)) (D.2 - E.2 - (rK D.1.natAbs E.1.natAbs : Int) - 2) mode
def qeX (w1 : Int) (D : Dy) (w2 : Int) (E : Dy) (mode : Int) : Int := if w2 ≠ 0 ∨ extS w1 D = 0 then 0 else if w1 ≠ 0 then outX (w1 * extS w2 E) (0, 0) mode else qeN D E mode
end Go.Ulp
namespace Go.Proofs.YtfphmlmgjhebjaaGreatDoor
open Go.RowKit Go.Ulp
set_option linter.unusedVariables false
set_option linter.unusedSimpArgs false
set_option maxHeartbeats 4000000
set_option maxRecDepth 100000
theorem quoEnd_any (v u : Value) (w1 w2 : Int) (D E : Dy) (mode : Int) (w : World) (hv : EX 3 w w1 D 1200 v) (hu : EX 3 w w2 E 1200 u) (hw1 : w1 = 0 ∨ w1 = 1 ∨ w1 = -1) (hw2 : w2 = 0 ∨ w2 = 1 ∨ w2 = -1) (m0 : 0 ≤ mode) (m1 : mode ≤ 4)
    (hE : w2 = 0 → E.1 ≠ 0) (hb1 : D.1.natAbs < 2 ^ 53) (hb2 : E.1.natAbs < 2 ^ 53) (he : -2100 ≤ D.2 - E.2 ∧ D.2 - E.2 ≤ 2100) :
    Calls Tryz.prog 21 #[v, u, .int .i64 mode] w fun e w' => ∃ n ao l c t way, e = .returned (.tuple #[.agg #[.bool n, .slice ao l c, .int .i64 t, .int .i64 way], .int .u64 (qeX w1 D w2 E mode)]) ∧ Below w.heap.size w w' := by
  obtain ⟨n, ao, l, c, t, rfl, hq⟩ := hv
  obtain ⟨m, bo, k, d, s, rfl, hp⟩ := hu
  by_cases h2 : w2 = 0
  case neg =>
    have e2 : (w2 != (0 : Int)) = true := by simpa using h2
    have eR : qeX w1 D w2 E mode = 0 := by unfold qeX; rw [if_pos (.inl h2)]
    rw [eR]
    clear eR hE hb1 hb2 he hw1 hw2
    go_enter Tryz.func21, Tryz.ntmps21
    go_upto_region 1 with fail
    refine wp_worldS (fun WW => Below w.heap.size w WW ∧ XV WW w.heap.size (.bool n) (.slice ao l c) (.int .i64 t) (.int .i64 w1) ∧ XV WW (w.heap.size + 1) (.bool m) (.slice bo k d) (.int .i64 s) (.int .i64 w2) ∧ E0 35 WW (w.heap.size + 1 + 1)) ⟨by (repeat' (first | (with_reducible assumption) | (with_reducible exact Below.refl _ _) | (with_reducible refine below_al ?_ _) | (with_reducible refine below_drewN ?_ _) | (with_reducible refine Below.drew ?_) | (with_reducible refine Below.alloc ?_ ?_ _) | (with_reducible refine Below.setCell ?_ ?_ _) | (refine below_trans ?_ (by assumption)) | go_size)), ((XV.made9 rfl).alloc _).alloc _, (XV.made9 (by first | omega | (simp; done) | (simp; omega))).alloc _, E0.made9 rfl (by first | omega | (simp; done) | (simp; omega))⟩ ?_
    intro W1 ⟨y1, zA, zB, zR⟩
    obtain ⟨gA, hgA⟩ : ∃ g, g = w.heap.size := ⟨_, rfl⟩
    obtain ⟨gB, hgB⟩ : ∃ g, g = w.heap.size + 1 := ⟨_, rfl⟩
    obtain ⟨gR, hgR⟩ : ∃ g, g = w.heap.size + 1 + 1 := ⟨_, rfl⟩
    have bR : w.heap.size ≤ gR := by omega
    rw [← hgR] at zR ⊢
    rw [← hgB] at zB ⊢
    rw [← hgA] at zA ⊢
    clear hgA hgB hgR
    replace hq := hq.below y1
    replace hp := hp.below y1
    obtain ⟨a0, a1, a2, a3⟩ := id zA
    obtain ⟨b0, b1, b2, b3⟩ := id zB
    obtain ⟨x0, x1, x2, x3, k0, k1, k2, k3, f0, f1, f2, f3, s5⟩ := zR.cells
    clear hq hp zR zA zB
    go_wp2_with fail
    refine bodyPost_ret (by simp [results, Tryz.results21, go_sem, k0, k1, k2, k3]; try rfl) rfl ?_
    exact ⟨_, _, _, _, _, _, rfl, y1.set4 bR _ _ _ _⟩
  have hE1 := hE h2
  subst h2
  have ES1 := hid (fun (W : World) (a : EX 3 W w1 D 6000 (.agg #[.bool n, .slice ao l c, .int .i64 t, .int .i64 w1])) => extSign_any _ w1 D W a hw1)
  by_cases hS : extS w1 D = 0
  · have eR : qeX w1 D 0 E mode = 0 := by unfold qeX; rw [if_pos (.inr hS)]
    rw [eR]
    rw [hS] at ES1
    clear eR hE hE1 hb1 hb2 he hw1 hw2 hS
    go_enter Tryz.func21, Tryz.ntmps21
    go_upto_region 1 with fail
    refine wp_worldS (fun WW => Below w.heap.size w WW ∧ XV WW w.heap.size (.bool n) (.slice ao l c) (.int .i64 t) (.int .i64 w1) ∧ XV WW (w.heap.size + 1) (.bool m) (.slice bo k d) (.int .i64 s) (.int .i64 0) ∧ E0 35 WW (w.heap.size + 1 + 1)) ⟨by (repeat' (first | (with_reducible assumption) | (with_reducible exact Below.refl _ _) | (with_reducible refine below_al ?_ _) | (with_reducible refine below_drewN ?_ _) | (with_reducible refine Below.drew ?_) | (with_reducible refine Below.alloc ?_ ?_ _) | (with_reducible refine Below.setCell ?_ ?_ _) | (refine below_trans ?_ (by assumption)) | go_size)), ((XV.made9 rfl).alloc _).alloc _, (XV.made9 (by first | omega | (simp; done) | (simp; omega))).alloc _, E0.made9 rfl (by first | omega | (simp; done) | (simp; omega))⟩ ?_
    intro W1 ⟨y1, zA, zB, zR⟩
    obtain ⟨gA, hgA⟩ : ∃ g, g = w.heap.size := ⟨_, rfl⟩
    obtain ⟨gB, hgB⟩ : ∃ g, g = w.heap.size + 1 := ⟨_, rfl⟩
    obtain ⟨gR, hgR⟩ : ∃ g, g = w.heap.size + 1 + 1 := ⟨_, rfl⟩
    have bR : w.heap.size ≤ gR := by omega
    rw [← hgR] at zR ⊢
    rw [← hgB] at zB ⊢
    rw [← hgA] at zA ⊢
    clear hgA hgB hgR
    replace hq := hq.below y1
    replace hp := hp.below y1
    obtain ⟨a0, a1, a2, a3⟩ := id zA
    obtain ⟨b0, b1, b2, b3⟩ := id zB
    have HA := hid (show EX 3 W1 w1 D 6000 (.agg #[.bool n, .slice ao l c, .int .i64 t, .int .i64 w1]) from (show EX 3 W1 w1 D 1200 _ from ⟨_, _, _, _, _, rfl, hq⟩).weak (by omega))
    have HZR := hid zR
    clear hq hp zR zA zB
    go_wp2_with (go_at_call 20; (with_reducible refine (ES1.out _ HA.out).mono ?_); rintro en w9 ⟨rfl, hb9⟩; obtain ⟨x0, x1, x2, x3, k0, k1, k2, k3, f0, f1, f2, f3, s5⟩ := (HZR.out.below hb9).cells)
    refine bodyPost_ret (by simp [results, Tryz.results21, go_sem, k0, k1, k2, k3]; try rfl) rfl ?_
    exact ⟨_, _, _, _, _, _, rfl, (below_trans y1 hb9).set4 bR _ _ _ _⟩
  have hS9 := extS_three D hw1
  obtain ⟨S1, hS1⟩ : ∃ x, x = extS w1 D := ⟨_, rfl⟩
  rw [← hS1] at ES1 hS hS9
  have eS : (S1 == (0 : Int)) = false := by simpa using hS
  by_cases h1 : w1 = 0
  · have eR : qeX w1 D 0 E mode = qeN D E mode := by unfold qeX; rw [if_neg (fun h => h.elim (fun h => h rfl) (by rw [← hS1]; exact hS)), if_neg (fun h => h h1)]
    rw [eR]
    have hD1 : D.1 ≠ 0 := by
      intro hz
      apply hS
      rw [hS1]
      unfold extS
      rw [if_neg (fun h => h h1)]
      unfold cmpD
      rw [hz]; simp [cmpI, sc]
    have RR := hid (fun (W : World) (a : QD 3 W D 1200 1100 (.agg #[.bool n, .slice ao l c, .int .i64 t])) (b : QD 3 W E 1200 1100 (.agg #[.bool m, .slice bo k d, .int .i64 s])) => ratioRounded_any _ _ D E mode W a b hD1 hE1 m0 m1 hb1 hb2 he)
    subst h1
    rw [show numX (decide (D.1 < 0) != decide (E.1 < 0)) (qst D.1.natAbs E.1.natAbs (rK D.1.natAbs E.1.natAbs)) (D.2 - E.2 - (rK D.1.natAbs E.1.natAbs : Int) - 2) mode = qeN D E mode from rfl] at RR
    generalize qeN D E mode = R at *
    generalize numC (decide (D.1 < 0) != decide (E.1 < 0)) (qst D.1.natAbs E.1.natAbs (rK D.1.natAbs E.1.natAbs)) (D.2 - E.2 - (rK D.1.natAbs E.1.natAbs : Int) - 2) mode = C at *
    clear eR hE hE1 hD1 hb1 hb2 he hw1 hw2 hS hS1 hS9
    go_enter Tryz.func21, Tryz.ntmps21
    go_upto_region 1 with fail
    refine wp_worldS (fun WW => Below w.heap.size w WW ∧ XV WW w.heap.size (.bool n) (.slice ao l c) (.int .i64 t) (.int .i64 0) ∧ XV WW (w.heap.size + 1) (.bool m) (.slice bo k d) (.int .i64 s) (.int .i64 0) ∧ E0 35 WW (w.heap.size + 1 + 1)) ⟨by (repeat' (first | (with_reducible assumption) | (with_reducible exact Below.refl _ _) | (with_reducible refine below_al ?_ _) | (with_reducible refine below_drewN ?_ _) | (with_reducible refine Below.drew ?_) | (with_reducible refine Below.alloc ?_ ?_ _) | (with_reducible refine Below.setCell ?_ ?_ _) | (refine below_trans ?_ (by assumption)) | go_size)), ((XV.made9 rfl).alloc _).alloc _, (XV.made9 (by first | omega | (simp; done) | (simp; omega))).alloc _, E0.made9 rfl (by first | omega | (simp; done) | (simp; omega))⟩ ?_
    intro W1 ⟨y1, zA, zB, zR⟩
    obtain ⟨gA, hgA⟩ : ∃ g, g = w.heap.size := ⟨_, rfl⟩
    obtain ⟨gB, hgB⟩ : ∃ g, g = w.heap.size + 1 := ⟨_, rfl⟩
    obtain ⟨gR, hgR⟩ : ∃ g, g = w.heap.size + 1 + 1 := ⟨_, rfl⟩
    have bR : w.heap.size ≤ gR := by omega
    rw [← hgR] at zR ⊢
    rw [← hgB] at zB ⊢
    rw [← hgA] at zA ⊢
    clear hgA hgB hgR
    replace hq := hq.below y1
    replace hp := hp.below y1
    obtain ⟨a0, a1, a2, a3⟩ := id zA
    obtain ⟨b0, b1, b2, b3⟩ := id zB
    have HA := hid (show EX 3 W1 0 D 6000 (.agg #[.bool n, .slice ao l c, .int .i64 t, .int .i64 0]) from (show EX 3 W1 0 D 1200 _ from ⟨_, _, _, _, _, rfl, hq⟩).weak (by omega))
    have HZR := hid zR
    have HQ := hid hq
    have HP := hid hp
    have HZA := hid zA
    have HZB := hid zB
    clear hq hp zR zA zB
    go_wp2_with (first
      | (go_at_call 20; (with_reducible refine (ES1.out _ HA.out).mono ?_); rintro en w9 ⟨rfl, hb9⟩; obtain ⟨i0, i1, i2, i3⟩ := HZA.out.below hb9; obtain ⟨j0, j1, j2, j3⟩ := HZB.out.below hb9)
      | (go_at_call 63; (with_reducible refine (RR.out _ (HQ.out.below hb9) (HP.out.below hb9)).mono ?_); rintro en w8 ⟨rfl, hb8⟩; obtain ⟨x0, x1, x2, x3, k0, k1, k2, k3, f0, f1, f2, f3, s5⟩ := ((HZR.out.below hb9).below hb8).cells))
    refine bodyPost_ret (by simp [results, Tryz.results21, go_sem, k0, k1, k2, k3]; try rfl) rfl ?_
    exact ⟨_, _, _, _, _, _, rfl, (below_trans (below_trans y1 hb9) hb8).set4 bR _ _ _ _⟩
  · have e1 : (w1 != (0 : Int)) = true := by simpa using h1
    have eR : qeX w1 D 0 E mode = outX (w1 * extS 0 E) (0, 0) mode := by unfold qeX; rw [if_neg (fun h => h.elim (fun h => h rfl) (by rw [← hS1]; exact hS)), if_pos h1]
    rw [eR]
    have ES2 := hid (fun (W : World) (a : EX 3 W 0 E 6000 (.agg #[.bool m, .slice bo k d, .int .i64 s, .int .i64 0])) => extSign_any _ 0 E W a hw2)
    have q2 := extS_three (way := 0) E hw2
    obtain ⟨S2, hS2⟩ : ∃ x, x = extS 0 E := ⟨_, rfl⟩
    rw [← hS2] at ES2 q2 ⊢
    have hP : w1 * S2 = 0 ∨ w1 * S2 = 1 ∨ w1 * S2 = -1 := by
      rcases hw1 with e | e | e <;> rcases q2 with e' | e' | e' <;> subst e <;> subst e' <;> decide
    have OW := hid (fun (v : Value) (W : World) (a : EX 3 W (w1 * S2) (0, 0) 6000 v) => outward_any v (w1 * S2) (0, 0) mode W a hP (nrm_isN 0 0) m0 m1)
    have hwp : IntKind.i64.wrap (w1 * S2) = w1 * S2 := IntWalk.i64_in _ (by omega)
    generalize outX (w1 * S2) (0, 0) mode = R at *
    clear eR hE hE1 hb1 hb2 he hw1 hw2 hS hS1 hS2 hS9 q2 hP
    go_enter Tryz.func21, Tryz.ntmps21
    go_upto_region 1 with fail
    refine wp_worldS (fun WW => Below w.heap.size w WW ∧ XV WW w.heap.size (.bool n) (.slice ao l c) (.int .i64 t) (.int .i64 w1) ∧ XV WW (w.heap.size + 1) (.bool m) (.slice bo k d) (.int .i64 s) (.int .i64 0) ∧ E0 35 WW (w.heap.size + 1 + 1)) ⟨by (repeat' (first | (with_reducible assumption) | (with_reducible exact Below.refl _ _) | (with_reducible refine below_al ?_ _) | (with_reducible refine below_drewN ?_ _) | (with_reducible refine Below.drew ?_) | (with_reducible refine Below.alloc ?_ ?_ _) | (with_reducible refine Below.setCell ?_ ?_ _) | (refine below_trans ?_ (by assumption)) | go_size)), ((XV.made9 rfl).alloc _).alloc _, (XV.made9 (by first | omega | (simp; done) | (simp; omega))).alloc _, E0.made9 rfl (by first | omega | (simp; done) | (simp; omega))⟩ ?_
    intro W1 ⟨y1, zA, zB, zR⟩
    obtain ⟨gA, hgA⟩ : ∃ g, g = w.heap.size := ⟨_, rfl⟩
    obtain ⟨gB, hgB⟩ : ∃ g, g = w.heap.size + 1 := ⟨_, rfl⟩
    obtain ⟨gR, hgR⟩ : ∃ g, g = w.heap.size + 1 + 1 := ⟨_, rfl⟩
    have bR : w.heap.size ≤ gR := by omega
    rw [← hgR] at zR ⊢
    rw [← hgB] at zB ⊢
    rw [← hgA] at zA ⊢
    clear hgA hgB hgR
    replace hq := hq.below y1
    replace hp := hp.below y1
    obtain ⟨a0, a1, a2, a3⟩ := id zA
    obtain ⟨b0, b1, b2, b3⟩ := id zB
    have HA := hid (show EX 3 W1 w1 D 6000 (.agg #[.bool n, .slice ao l c, .int .i64 t, .int .i64 w1]) from (show EX 3 W1 w1 D 1200 _ from ⟨_, _, _, _, _, rfl, hq⟩).weak (by omega))
    have HB := hid (show EX 3 W1 0 E 6000 (.agg #[.bool m, .slice bo k d, .int .i64 s, .int .i64 0]) from (show EX 3 W1 0 E 1200 _ from ⟨_, _, _, _, _, rfl, hp⟩).weak (by omega))
    have HZR := hid zR
    have HZA := hid zA
    have HZB := hid zB
    clear hq hp zR zA zB
    go_upto_region 4 with (go_at_call 20; (with_reducible refine (ES1.out _ HA.out).mono ?_); rintro en w9 ⟨rfl, hb9⟩; obtain ⟨i0, i1, i2, i3⟩ := HZA.out.below hb9; obtain ⟨j0, j1, j2, j3⟩ := HZB.out.below hb9)
    have y2 := below_trans y1 hb9
    have zA := HZA.out.below hb9
    have zB := HZB.out.below hb9
    have HZR2 := hid (HZR.out.below hb9)
    have HB2 := hid (HB.out.below hb9)
    obtain ⟨W2, hW2⟩ : ∃ W, W = w9 := ⟨_, rfl⟩
    subst hW2
    clear hb9 y1 HZR HZA HZB HA HB ES1 i0 i1 i2 i3 j0 j1 j2 j3 a0 a1 a2 a3 b0 b1 b2 b3
    refine wp_region_growF 7 [25, 26, 27, 28, 29, 30, 8] [Fact.is (.pointer (some ⟨gA, 3, none⟩)), Fact.is (.int .i64 w1), Fact.is (.agg #[.bool m, .slice bo k d, .int .i64 s, .int .i64 0]), Fact.is (.int .i64 S2), Fact.is (.int .i64 (w1 * S2)), Fact.is (.agg #[.bool false, .slice none 0 0, .int .i64 0, .int .i64 (w1 * S2)]), Fact.e0 W2.heap.size 35] [6] (by kernel_rfl) (by kernel_rfl) ⟨?o0, ?o1, ?o2, ?o3, ?o4, ?o5, ?o6, trivial⟩ ?after
    case o0 => (refine StepOKF.plain rfl ?_; intro ρ w1 R hρ hb hp hR; have e3 : ρ (.tmp 3) = .pointer (some ⟨gA, 0, none⟩) := hρ.tmp 3 rfl; replace hR := fun v w2 h1 h2 => hR v w2 h1 h2 (fun h => absurd h (by decide)); have hcon := hρ.con; have hfn := hρ.fn; clear hρ hp; unfold OpRun; go_simp; exact hR _ _ (Below.refl _ _) rfl)
    case o1 => (refine StepOKF.plain rfl ?_; intro ρ w1 R hρ hb hp hR; have e25 : ρ (.tmp 25) = _ := hp 0 25 rfl rfl; obtain ⟨j0, j1, j2, j3⟩ := zA.below hb; replace hR := fun v w2 h1 h2 => hR v w2 h1 h2 (fun h => absurd h (by decide)); have hcon := hρ.con; have hfn := hρ.fn; clear hρ hp; unfold OpRun; go_simp; exact hR _ _ (Below.refl _ _) rfl)
    case o2 => (refine StepOKF.plain rfl ?_; intro ρ w1 R hρ hb hp hR; have e4 : ρ (.tmp 4) = .pointer (some ⟨gB, 0, none⟩) := hρ.tmp 4 rfl; obtain ⟨j0, j1, j2, j3⟩ := zB.below hb; replace hR := fun v w2 h1 h2 => hR v w2 h1 h2 (fun h => absurd h (by decide)); have hcon := hρ.con; have hfn := hρ.fn; clear hρ hp; unfold OpRun; go_simp; exact hR _ _ (Below.refl _ _) rfl)
    case o3 => (refine StepOKF.plain rfl ?_; intro ρ w1 R hρ hb hp hR; have e27 : ρ (.tmp 27) = _ := hp 2 27 rfl rfl; replace hR := fun v w2 h1 h2 => hR v w2 h1 h2 (fun h => absurd h (by decide)); have hcon := hρ.con; have hfn := hρ.fn; clear hρ hp; unfold OpRun; go_simp; (refine (ES2.out _ (HB2.out.below hb)).mono ?_; rintro e wn ⟨rfl, hbn⟩; exact ⟨_, rfl, hR _ _ hbn rfl⟩))
    case o4 => (refine StepOKF.plain rfl ?_; intro ρ w1 R hρ hb hp hR; have e26 : ρ (.tmp 26) = _ := hp 1 26 rfl rfl; have e28 : ρ (.tmp 28) = _ := hp 3 28 rfl rfl; replace hR := fun v w2 h1 h2 => hR v w2 h1 h2 (fun h => absurd h (by decide)); have hcon := hρ.con; have hfn := hρ.fn; clear hρ hp; unfold OpRun; go_simp; exact hR _ _ (Below.refl _ _) rfl)
    case o5 => (refine StepOKF.plain rfl ?_; intro ρ w1 R hρ hb hp hR; have e29 : ρ (.tmp 29) = _ := hp 4 29 rfl rfl; replace hR := fun v w2 h1 h2 => hR v w2 h1 h2 (fun h => absurd h (by decide)); have hcon := hρ.con; have hfn := hρ.fn; clear hρ hp; unfold OpRun; go_simp; exact hR _ _ (Below.refl _ _) rfl)
    case o6 => (refine StepOKF.plain rfl ?_; intro ρ w1 R hρ hb hp hR; have hcon := hρ.con; have hfn := hρ.fn; clear hρ hp; unfold OpRun; go_simp; exact hR _ _ (below_alloc _ _) ⟨_, rfl, by have := hb.size; simpa using this, E0.made rfl⟩ (fun _ => ⟨_, rfl, Nat.le_refl _, by simp⟩))
    case after =>
      intro u wn hb hf hd
      have e30 : u 30 = _ := hf 5 30 (by omega) rfl
      have f8 := hf 6 8 (by omega) rfl
      clear hf hd
      simp only [putAll, Act.put, List.setIfInBounds_toArray, List.set_cons_zero, List.set_cons_succ, List.drop_succ_cons, List.drop_zero, List.drop_nil]
      rw [e30]
      obtain ⟨g8, e8, hg8, z8⟩ := f8
      rw [e8]
      have hne : (35 : TypeId) ≠ 3 := by decide
      have yb := below_trans y2 hb
      have lR := HZR2.out.lt
      have nR8 : gR ≠ g8 := by omega
      have b8 : w.heap.size ≤ g8 := by have := y2.size; omega
      have HS := hid (show Below w.heap.size w (put4 wn g8 (.bool false) (.slice none 0 0) (.int .i64 0) (.int .i64 (w1 * S2))) ∧ XE 3 35 (put4 wn g8 (.bool false) (.slice none 0 0) (.int .i64 0) (.int .i64 (w1 * S2))) g8 (w1 * S2) (0, 0) 6000 ∧ E0 35 (put4 wn g8 (.bool false) (.slice none 0 0) (.int .i64 0) (.int .i64 (w1 * S2))) gR from
        ⟨yb.set4 b8 _ _ _ _, XE.put z8 hne (qd_zero _ _ _ _), (HZR2.out.below hb).far4 nR8 _ _ _ _⟩)
      obtain ⟨x0, x1, x2, x3, k0, k1, k2, k3, f0, f1, f2, f3, s5⟩ := z8.cells
      clear zA zB hb z8 e8 yb y2 lR hg8 HZR2 HB2 ES2 s5
      go_upto_region 5 with fail
      refine wp_worldS (fun WW => Below w.heap.size w WW ∧ XE 3 35 WW g8 (w1 * S2) (0, 0) 6000 ∧ E0 35 WW gR) HS.out ?_
      intro W5 ⟨y5, z85, zR5⟩
      clear HS k0 k1 k2 k3 f0 f1 f2 f3
      obtain ⟨n8, ao8, l8, c8, t8, i0, i1, i2, i3, -, -, -, -, -, q8⟩ := id z85
      have zX : XV W5 g8 (.bool n8) (.slice ao8 l8 c8) (.int .i64 t8) (.int .i64 (w1 * S2)) := ⟨i0, i1, i2, i3⟩
      have H8 := hid (show EX 3 W5 (w1 * S2) (0, 0) 6000 (.agg #[.bool n8, .slice ao8 l8 c8, .int .i64 t8, .int .i64 (w1 * S2)]) from ⟨_, _, _, _, _, rfl, q8⟩)
      clear i0 i1 i2 i3 q8 z85
      refine wp_region_grow 4 [31, 32, 33, 34] [Fact.is (.agg #[.bool n8, .slice ao8 l8 c8, .int .i64 t8, .int .i64 (w1 * S2)]), Fact.is (.agg #[.bool n8, .slice ao8 l8 c8, .int .i64 t8, .int .i64 (w1 * S2)]), Fact.is (.int .i64 mode), Fact.is (.int .u64 R)] (by kernel_rfl) (by kernel_rfl) ⟨?o0, ?o1, ?o2, ?o3, trivial⟩ ?after
      case o0 => (refine StepOK.plain rfl ?_; intro ρ w1 R hρ hb hp hR; have e8 : ρ (.tmp 8) = .pointer (some ⟨g8, 0, none⟩) := hρ.tmp 8 rfl; obtain ⟨j0, j1, j2, j3⟩ := zX.below hb; have hcon := hρ.con; have hfn := hρ.fn; clear hρ hp; unfold OpRun; go_simp; exact hR _ _ (Below.refl _ _) rfl)
      case o1 => (refine StepOK.plain rfl ?_; intro ρ w1 R hρ hb hp hR; have e8 : ρ (.tmp 8) = .pointer (some ⟨g8, 0, none⟩) := hρ.tmp 8 rfl; obtain ⟨j0, j1, j2, j3⟩ := zX.below hb; have hcon := hρ.con; have hfn := hρ.fn; clear hρ hp; unfold OpRun; go_simp; exact hR _ _ (Below.refl _ _) rfl)
      case o2 => (refine StepOK.plain rfl ?_; intro ρ w1 R hρ hb hp hR; have e2 : ρ (.tmp 2) = .int .i64 mode := hρ.tmp 2 rfl; have hcon := hρ.con; have hfn := hρ.fn; clear hρ hp; unfold OpRun; go_simp; exact hR _ _ (Below.refl _ _) rfl)
      case o3 => (refine StepOK.plain rfl ?_; intro ρ w1 R hρ hb hp hR; have e32 : ρ (.tmp 32) = _ := hp 1 32 rfl rfl; have e33 : ρ (.tmp 33) = _ := hp 2 33 rfl rfl; have hcon := hρ.con; have hfn := hρ.fn; clear hρ hp; unfold OpRun; go_simp; (refine (OW.out _ _ (H8.out.below hb)).mono ?_; rintro e wn ⟨rfl, hbn⟩; exact ⟨_, rfl, hR _ _ hbn rfl⟩))
      case after =>
        intro u wn hb hf
        have e31 : u 31 = _ := hf 0 31 (by omega) rfl
        have e34 : u 34 = _ := hf 3 34 (by omega) rfl
        clear hf
        simp only [putAll, Act.put, List.setIfInBounds_toArray, List.set_cons_zero, List.set_cons_succ, List.drop_succ_cons, List.drop_zero, List.drop_nil]
        rw [e31, e34]
        have y6 := below_trans y5 hb
        obtain ⟨x0, x1, x2, x3, k0, k1, k2, k3, f0, f1, f2, f3, s5⟩ := (zR5.below hb).cells
        clear zX H8 hb zR5 y5 s5
        go_wp2_with fail
        refine bodyPost_ret (by simp [results, Tryz.results21, go_sem, k0, k1, k2, k3]; try rfl) rfl ?_
        exact ⟨_, _, _, _, _, _, rfl, y6.set4 bR _ _ _ _⟩
end Go.Proofs.YtfphmlmgjhebjaaGreatDoor

set_option linter.unusedVariables false
set_option linter.unusedSimpArgs false
namespace Go.Ulp
open Go.RowKit
theorem rank_val (x : Int) (hx : U64 x) (h : classOf x < 4) : -9218868437227405312 < rankOf x ∧ rankOf x < 9218868437227405312 := by
  have b := class_val x hx.1 hx.2
  obtain ⟨h0, h1⟩ := hx
  have : absOf x < 9218868437227405312 := by
    rcases Int.lt_or_le (absOf x) 9218868437227405312 with k | k
    · exact k
    · have := b.2 k; omega
  unfold absOf at this
  unfold rankOf
  split <;> omega
/-- a number's own value is rounded to itself -/
theorem rX_fv (x : Int) (hx : U64 x) (h : classOf x < 4) (mode : Int) (hm : mode = 1 ∨ mode = 2) : rankOf (rX (fv x) mode) = rankOf x := by
  obtain ⟨s, hs⟩ : ∃ s : Nat, 0 ≤ (fv x).2 + 1074 + s := ⟨(-(fv x).2).toNat, by omega⟩
  have r1 := rX_rnd (fv x) s hs mode (by omega) (by omega)
  obtain ⟨r0, r9⟩ := rank_val x hx h
  have hV : (fv x).1 * pw ((fv x).2 + 1074 + s).toNat = rT s (rankOf x) := by
    have hc := cmp_nrm (fv x).1 (fv x).2 (rvs (rankOf x)) (-1074) (-(1074 + (s : Int))) (.inl (by omega)) (.inl (by omega))
    rw [nrm_of_isN (fv x) (show IsN (fv x) from nrm_isN _ _), ← fv_rank x hx.1 hx.2] at hc
    have hz : cmpD (fv x) (fv x) = 0 := by unfold cmpD; exact (cmpI_eq_zero _ _).2 rfl
    rw [hz] at hc
    have h2 := (cmpI_eq_zero _ _).1 hc
    unfold sc at h2
    rw [show ((fv x).2 - -(1074 + (s : Int))).toNat = ((fv x).2 + 1074 + s).toNat by omega, show (-1074 - -(1074 + (s : Int))).toNat = s by omega] at h2
    exact h2
  rw [hV] at r1
  have key : ∀ l, IsLow (cR s (rT s (rankOf x))) l → l = rankOf x ∧ cR s (rT s (rankOf x)) l = 0 := fun l hl => by
    obtain ⟨l1, l2, l3, l4⟩ := hl
    have e : l = rankOf x := by
      rcases Int.lt_trichotomy l (rankOf x) with k | k | k
      · exfalso
        rcases l4 with j | j
        · omega
        · unfold cR at j
          have := (cmpI_gt _ _).1 j
          have := rT_le s (show l + 1 ≤ rankOf x by omega)
          omega
      · exact k
      · exfalso
        rcases l3 with j | j
        · omega
        · unfold cR at j
          have := (cmpI_le _ _).1 j
          have := rT_mono s k
          omega
    refine ⟨e, ?_⟩
    rw [e]; unfold cR; exact (cmpI_eq_zero _ _).2 rfl
  rcases hm with e | e <;> subst e
  · obtain ⟨l, hl, hr⟩ := rnd_up r1
    obtain ⟨k1, k2⟩ := key l hl
    rw [hr, if_pos ⟨by omega, k2⟩]; exact k1
  · obtain ⟨l, hl, hr⟩ := rnd_dn r1
    rw [hr]; exact (key l hl).1
/-- the end that a number is -/
def exP (x : Int) : Int × Dy := (exW x, exD x)
theorem exP_ok (x : Int) : XOk (exP x) := by
  refine ⟨exW_ok x, ?_⟩
  show IsN (exD x)
  unfold exD
  split
  · exact nrm_isN _ _
  · exact nrm_isN 0 0
theorem exP_rank (x : Int) (hx : U64 x) (h : classOf x ≠ 5) (mode : Int) (hm : mode = 1 ∨ mode = 2) : rkO mode (exP x) = rankOf x := by
  unfold rkO exP
  have b := class_bd x
  cases hv : valB x
  · have h4 : classOf x = 4 := by unfold valB at hv; have := of_decide_eq_false hv; omega
    have ha := (class_inf x hx.1 hx.2).1 h4
    have hr := rank_abs x hx.1 hx.2
    have eW : exW x = if negB x = true then -1 else 1 := by unfold exW; rw [hv]; rfl
    show rankOf (outX (exW x) (exD x) mode) = _
    rw [eW, hr, ha]
    split
    · rw [outX_inf _ _ _ (.inr rfl)]; rfl
    · rw [outX_inf _ _ _ (.inl rfl)]; rfl
  · have h4 : classOf x < 4 := by unfold valB at hv; exact of_decide_eq_true hv
    show rankOf (outX (exW x) (exD x) mode) = _
    rw [show exW x = 0 by unfold exW; rw [hv]; rfl, show exD x = fv x by unfold exD; rw [hv]; rfl, outX_fin]
    exact rX_fv x hx h4 mode hm
end Go.Ulp
namespace Go.Proofs.YtfphmlmgjhebjaaGreatDoor
open Go.RowKit Go.Ulp
set_option linter.unusedVariables false
set_option linter.unusedSimpArgs false
/-- a quotient of ends, as the reference has it -/
def qeR (x y : Nat) (mode : Int) : Int := qeX (exW (x : Int)) (exD (x : Int)) (exW (y : Int)) (exD (y : Int)) mode
theorem inf_rank (x : Int) (hx : U64 x) (h : isInf x = true) : rankOf x = if negB x = true then -9218868437227405312 else 9218868437227405312 := by
  have h4 : classOf x = 4 := by unfold isInf at h; exact beq_iff_eq.1 h
  rw [rank_abs x hx.1 hx.2, (class_inf x hx.1 hx.2).1 h4]
theorem div_out (x y : Nat) (hx : EndN x) (hy : EndN y) (cy : classOf (y : Int) ≠ 1) (mode : Int) (hm : mode = 1 ∨ mode = 2) (ho : divO x y = true) :
    rankOf (divR x y mode) = rankOf (qeR x y mode) := by
  obtain ⟨hx0, cx5, zx⟩ := hx
  obtain ⟨hy0, cy5, zy⟩ := hy
  unfold divR
  rw [if_pos ho]
  obtain ⟨kx1, kx2⟩ := val_kinds (x : Int)
  obtain ⟨ky1, ky2⟩ := val_kinds (y : Int)
  have iy : isZer (y : Int) = false := by unfold isZer; exact beq_eq_false_iff_ne.2 cy
  have xn : isNan (x : Int) = false := by cases vx : valB (x : Int); exact (kx2 vx cx5).1; exact (kx1 vx).1
  have yn : isNan (y : Int) = false := by cases vy : valB (y : Int); exact (ky2 vy cy5).1; exact (ky1 vy).1
  have sy := ext_sign (y : Int) (by omega) (by omega) cy5 cy
  unfold qeR qeX
  cases vy : valB (y : Int)
  · have wy : exW (y : Int) ≠ 0 := by unfold exW; rw [vy, if_neg (by decide)]; split <;> omega
    rw [if_pos (.inl wy)]
    have vx : valB (x : Int) = true := by
      unfold divO at ho
      rw [hasVal_valB _ (by omega) (by omega), hasVal_valB _ (by omega) (by omega), vy, Bool.or_false] at ho
      exact ho
    have hk : kindQ (x : Int) (y : Int) = 2 := by
      unfold kindQ kQ
      rw [xn, yn, iy, (kx1 vx).2, (ky2 vy cy5).2]
      simp
    rw [hk]
    show rankOf (sgb (sgx (x : Int) (y : Int))) = rankOf 0
    cases sgx (x : Int) (y : Int) <;> rfl
  · have wy : exW (y : Int) = 0 := by unfold exW; rw [vy]; rfl
    have dy : exD (y : Int) = fv (y : Int) := by unfold exD; rw [vy]; rfl
    by_cases cx1 : classOf (x : Int) = 1
    · have x0 : (x : Int) = 0 := by
        have := (zero_iff (x : Int) (by omega) (by omega)).1 cx1
        unfold absOf at this; omega
      rw [if_pos (.inr (ext_zero (x : Int) x0))]
      have vx : valB (x : Int) = true := by unfold valB; rw [cx1]; rfl
      have ix : isZer (x : Int) = true := by unfold isZer; exact beq_iff_eq.2 cx1
      have hk : kindQ (x : Int) (y : Int) = 2 := by
        unfold kindQ kQ
        rw [xn, yn, iy, ix, (kx1 vx).2, (ky1 vy).2]
        simp
      rw [hk]
      show rankOf (sgb (sgx (x : Int) (y : Int))) = rankOf 0
      cases sgx (x : Int) (y : Int) <;> rfl
    · have sx := ext_sign (x : Int) (by omega) (by omega) cx5 cx1
      have ix : isZer (x : Int) = false := by unfold isZer; exact beq_eq_false_iff_ne.2 cx1
      rw [if_neg (fun h => h.elim (fun k => k wy) (fun k => by rw [sx] at k; split at k <;> omega))]
      cases vx : valB (x : Int)
      · have eW : exW (x : Int) = if negB (x : Int) = true then -1 else 1 := by unfold exW; rw [vx]; rfl
        have hw : exW (x : Int) ≠ 0 := by rw [eW]; split <;> omega
        rw [if_pos hw, sy, eW]
        have hk : kindQ (x : Int) (y : Int) = 1 := by
          unfold kindQ kQ
          rw [xn, yn, iy, ix, (kx2 vx cx5).2, (ky1 vy).2]
          simp
        rw [hk]
        show rankOf (infX (sgx (x : Int) (y : Int))) = _
        unfold sgx
        cases negB (x : Int) <;> cases negB (y : Int) <;> rfl
      · have wx : exW (x : Int) = 0 := by unfold exW; rw [vx]; rfl
        have dx : exD (x : Int) = fv (x : Int) := by unfold exD; rw [vx]; rfl
        rw [if_neg (fun h => h wx)]
        have hk : kindQ (x : Int) (y : Int) = 3 := by
          unfold kindQ kQ
          rw [xn, yn, iy, ix, (kx1 vx).2, (ky1 vy).2]
          simp
        rw [hk, dx, dy]
        have nx := fv_nz (x : Int) (by omega) (by omega) (of_decide_eq_true vx) cx1
        have ny := fv_nz (y : Int) (by omega) (by omega) (of_decide_eq_true vy) cy
        show rankOf (numX (sgx (x : Int) (y : Int)) (quM (x : Int) (y : Int)) (quE (x : Int) (y : Int)) mode) = rankOf (qeN (fv (x : Int)) (fv (y : Int)) mode)
        unfold qeN
        rw [fv_sign (x : Int) (by omega), fv_sign (y : Int) (by omega)]
        rfl
end Go.Proofs.YtfphmlmgjhebjaaGreatDoor
