/- DecimalExact: both sides and the law. -/
import Derived.Test.YtincggkdlegjjaaDoorTx6
import Derived.Test.YtincggkdlegjjaaDoorTx7
import Derived.Test.YtincggkdlegjjaaDoorTx8
set_option linter.unusedVariables false
set_option linter.unusedSimpArgs false
namespace Go.Ulp
open Go.RowKit
/-- so many places behind the point are told -/
def exP (D : Dy) : Nat := (-D.2).toNat
def exN (D : Dy) : Nat := rtN false (dA D * tnN (exP D)) (dB D * tnN (-(exP D : Int))) 3
def exT (x : Int) : List UInt8 := dsh (negB x) (ptd (decD (exN (fv x))) (exP (fv x)))
theorem rtN_down (neg : Bool) (a b : Nat) : rtN neg a b 3 = a / b := by
  unfold rtN upN
  rw [if_neg (by simp)]
theorem dsh_app (n : Bool) (L : List UInt8) : (if n = true then [45] else []) ++ L = dsh n L := by unfold dsh; cases n <;> rfl
theorem fv_small (x : Int) (h0 : 0 ≤ x) (h1 : x < 18446744073709551616) : (limbs (fv x).1.natAbs).length ≤ 2 ∧ -1074 ≤ (fv x).2 ∧ (fv x).2 ≤ 1024 := by
  obtain ⟨-, h2, h3, h4⟩ := fv_bd x h0 h1
  exact ⟨limbs_short2 53 2 (by omega) _ h2, h3, h4⟩
theorem dA_bits (D : Dy) (h : D.1.natAbs < 2 ^ 53) (h2 : D.2 ≤ 1024) (E : Nat) (hE : 1077 ≤ E) : dA D < 2 ^ E := by
  unfold dA
  obtain ⟨K, hK⟩ : ∃ K, K = D.2.toNat := ⟨_, rfl⟩
  rw [← hK]
  have h3 : 2 ^ (53 + K) ≤ 2 ^ E := Nat.pow_le_pow_right (by omega) (by omega)
  rw [Nat.pow_add] at h3
  exact Nat.lt_of_lt_of_le (Nat.mul_lt_mul_of_pos_right h (Nat.two_pow_pos _)) h3
theorem tn_bits (p : Int) (P : Nat) (h : p ≤ P) : tnN p < 2 ^ (4 * P + 1) := by
  unfold tnN
  have h1 : (10 : Nat) ^ p.toNat ≤ 10 ^ P := Nat.pow_le_pow_right (by omega) (by omega)
  have h2 : (10 : Nat) ^ P ≤ (2 ^ 4) ^ P := Nat.pow_le_pow_left (by decide) P
  rw [← Nat.pow_mul] at h2
  rw [Nat.pow_succ]
  have := Nat.two_pow_pos (4 * P)
  omega
theorem mul_bits {a b A B : Nat} (h : a < 2 ^ A) (k : b < 2 ^ B) : a * b < 2 ^ (A + B) := by
  rw [Nat.pow_add]; exact Nat.mul_lt_mul'' h k
theorem dB_bits (D : Dy) (h : -1074 ≤ D.2) (E : Nat) (hE : 1077 ≤ E) : dB D < 2 ^ E := by
  unfold dB; exact Nat.pow_lt_pow_right (by omega) (by omega)
/-- the sizes of what scaled makes -/
theorem scaled_bits (D : Dy) (t : Int) (P : Nat) (h : D.1.natAbs < 2 ^ 53) (h2 : D.2 ≤ 1024) (h3 : -1074 ≤ D.2) (hP : -(P : Int) ≤ t ∧ t ≤ P) (E : Nat) (hE : 1077 + (4 * P + 1) ≤ E) :
    dA D * tnN t < 2 ^ E ∧ dB D * tnN (-t) < 2 ^ E := by
  obtain ⟨F, hF⟩ : ∃ F, E = F + (4 * P + 1) := ⟨E - (4 * P + 1), by omega⟩
  rw [hF]
  exact ⟨mul_bits (dA_bits D h h2 F (by omega)) (tn_bits t P hP.2), mul_bits (dB_bits D h3 F (by omega)) (tn_bits (-t) P (by omega))⟩
end Go.Ulp
namespace Go.Proofs.YtincggkdlegjjaaDoor
open Go.RowKit Go.Ulp
set_option linter.unusedVariables false
set_option linter.unusedSimpArgs false
set_option maxHeartbeats 2000000
set_option maxRecDepth 100000
theorem exactP_none (x : Int) (h0 : 0 ≤ x) (h1 : x < 18446744073709551616) (hv : hasVal x = false) (w : World) :
    Calls Tryd.prog 52 #[.int .u64 x] w fun e w' => e = .returned (.tuple #[.string ⟨#[]⟩, .int .i64 4]) ∧ w = w' := by
  have HV := hid (show ∀ w, Calls Tryd.prog 101 #[.int .u64 x] w fun e w' => e = .returned (.bool false) ∧ w = w' from fun w => by
    have h9 := hasValue_any x h0 h1 w
    rwa [hv] at h9)
  go_enter Tryd.func52, Tryd.ntmps52
  go_wp2_with (go_at_call 101; (with_reducible refine (HV.out _).mono ?_); rintro en w1 ⟨rfl, rfl⟩)
  go_ret2
  exact ⟨rfl, rfl⟩
theorem exactP_some (x : Int) (h0 : 0 ≤ x) (h1 : x < 18446744073709551616) (hv : hasVal x = true) (w : World) (hT : Tab 0 w) (hT10 : Tab10 w) :
    Calls Tryd.prog 52 #[.int .u64 x] w fun e w' => e = .returned (.tuple #[.string (bsOf (exT x)), .int .i64 0]) ∧ Below w.heap.size w w' := by
  obtain ⟨D, hD⟩ : ∃ D, D = fv x := ⟨_, rfl⟩
  obtain ⟨d1, d2, d3⟩ := fv_small x h0 h1
  obtain ⟨-, d4, -⟩ := fv_bd x h0 h1
  rw [← hD] at d1 d2 d3 d4
  obtain ⟨p, hp⟩ : ∃ p, p = exP D := ⟨_, rfl⟩
  have hpp : p = (-D.2).toNat := hp
  obtain ⟨E, hE⟩ : ∃ E, E = 5500 := ⟨_, rfl⟩
  obtain ⟨s1, s2⟩ := scaled_bits D (p : Int) 1100 d4 d3 d2 (by omega) E (by omega)
  obtain ⟨A, hA⟩ : ∃ A, A = dA D * tnN (p : Int) := ⟨_, rfl⟩
  obtain ⟨B, hB⟩ : ∃ B, B = dB D * tnN (-(p : Int)) := ⟨_, rfl⟩
  have hB0 : 0 < B := by rw [hB]; exact Nat.mul_pos (dB_pos D) (tnN_pos _)
  obtain ⟨N, hN⟩ : ∃ N, N = rtN (decide (D.1 < 0)) A B 3 := ⟨_, rfl⟩
  have hNq : N ≤ A := by rw [hN, rtN_down]; exact Nat.div_le_self _ _
  rw [← hA] at s1
  rw [← hB] at s2
  have lA := limbs_short2 E 200 (by omega) A s1
  have lB := limbs_short2 E 200 (by omega) B s2
  have lN : (limbs N).length ≤ 200 := Nat.le_trans (limbs_len_mono hNq) lA
  have lD : (decD N).length ≤ 10000 := Nat.le_trans (decD_bits N E (Nat.lt_of_le_of_lt hNq s1) (by omega)) (by omega)
  have VA := hid (show ∀ w, Tab 0 w → Calls Tryd.prog 63 #[.int .u64 x] w (RetVD w D) from fun w t => by rw [hD]; exact value_any x h0 h1 w t)
  have SC := hid (show ∀ v w, VD w D v → Calls Tryd.prog 121 #[v, .int .i64 (p : Int)] w (RetRat w (decide (D.1 < 0)) A B) from fun v w h => by
    rw [hA, hB]; exact scaled_any v D (p : Int) w h (by omega) (by omega) (by omega))
  have RO := hid (fun g w h => by
    have h9 := ratioRound_any g (decide (D.1 < 0)) A B 3 w h (by omega) hB0 (by omega)
    rwa [← hN] at h9)
  have DE := hid (fun ao c w h t => decimal_any ao c N w h (by omega) t)
  have PT := hid (fun w => point_any (decD N) p w (by omega) (by omega))
  have SG := hid (fun w => signT_any x h0 h1 w)
  have HV := hid (show ∀ w, Calls Tryd.prog 101 #[.int .u64 x] w fun e w' => e = .returned (.bool true) ∧ w = w' from fun w => by
    have h9 := hasValue_any x h0 h1 w
    rwa [hv] at h9)
  have hEX : exT x = dsh (negB x) (ptd (decD N) p) := by
    unfold exT exN
    rw [← hD, ← hp, ← hA, ← hB, hN, rtN_down, rtN_down]
  have hlp := ptd_len (decD N) p
  have hAD := add_bs (P := Tryd.prog) (if negB x = true then [45] else []) (ptd (decD N) p) (by split <;> simp <;> omega)
  rw [dsh_app, ← hEX] at hAD
  have HT := hid hT
  have HT10 := hid hT10
  obtain ⟨y, hy⟩ : ∃ y, y = D.2 := ⟨_, rfl⟩
  have hmx : max (-y) 0 = (p : Int) := by omega
  have hwy : IntKind.i64.wrap (-y) = -y := IntWalk.i64_in _ (by omega)
  have HY := hid hy
  generalize exT x = T at *
  generalize ptd (decD N) p = T2 at *
  generalize (if negB x = true then [45] else []) = T1 at *
  generalize decD N = T3 at *
  clear hN hA hB hEX hpp hp hNq s1 s2 lA lB lN d1 d4 hD hB0 hT hT10 hv hlp lD hy hE E
  go_enter Tryd.func52, Tryd.ntmps52
  go_upto_region 4 with (first
    | (go_at_call 101; (with_reducible refine (HV.out _).mono ?_); rintro en w1 ⟨rfl, rfl⟩)
    | (go_at_call 63; (with_reducible refine (VA.out _ HT.out).mono ?_); rintro en w2 ⟨v, rfl, ⟨am, cm, rfl, hNm⟩, hb2⟩))
  refine wp_worldZ (fun WW => Below w.heap.size w WW ∧ QL 35 WW w2.heap.size (decide (D.1 < 0)) (.slice am (limbs D.1.natAbs).length cm) D.2 ∧ Ns .u32 WW am cm (limbs D.1.natAbs)) ⟨below_trans hb2 (below_alloc _ _), QL.made rfl, hNm.below (below_alloc _ _)⟩ ?_
  intro W3 ⟨y3, z4, hN4⟩
  obtain ⟨g4, hg4⟩ : ∃ g, g = w2.heap.size := ⟨_, rfl⟩
  rw [← hg4] at z4 ⊢
  have HN4 := hid hN4
  obtain ⟨⟨j0, j1, -⟩, j2, -⟩ := id z4
  rw [← HY.out] at j2
  have SC2 := hid (fun w h => SC.out (.agg #[.bool (decide (D.1 < 0)), .slice am (limbs D.1.natAbs).length cm, .int .i64 y]) w ⟨am, cm, by rw [HY.out], h⟩)
  clear hg4 hNm hb2 z4 hN4 SC VA HV
  generalize decide (D.1 < 0) = neg at *
  go_wp2_with (first
    | (go_at_call 121; (with_reducible refine (SC2.out _ HN4.out).mono ?_); rintro en w5 ⟨g5, rfl, hr5, hb5⟩)
    | (go_at_call 122; (with_reducible refine (RO.out _ _ hr5).mono ?_); rintro en w6 ⟨aq, cq, rfl, hNq, hb6⟩; have y6 := below_trans (below_trans y3 hb5) hb6)
    | (go_at_call 123; (with_reducible refine (SG.out _).mono ?_); rintro en w7 ⟨rfl, rfl⟩)
    | (go_at_call 116; (with_reducible refine (DE.out _ _ _ hNq (HT10.out.below y6)).mono ?_); rintro en w8 ⟨rfl, hb8⟩)
    | (go_at_call 124; (with_reducible refine (PT.out _).mono ?_); rintro en w9 ⟨rfl, hb9⟩))
  all_goals go_ret2
  all_goals exact ⟨rfl, below_trans (below_trans y6 hb8) hb9⟩
theorem exactText_any (x : Int) (h0 : 0 ≤ x) (h1 : x < 18446744073709551616) (w : World) :
    Calls Tryd.prog 53 #[.int .u64 x] w fun e w' => e = .returned (.string (bsOf (exT x))) ∧ Below w.heap.size w w' := by
  obtain ⟨D, hD⟩ : ∃ D, D = fv x := ⟨_, rfl⟩
  obtain ⟨d1, d2, d3⟩ := fv_small x h0 h1
  obtain ⟨-, d4, -⟩ := fv_bd x h0 h1
  rw [← hD] at d1 d2 d3 d4
  obtain ⟨p, hp⟩ : ∃ p, p = exP D := ⟨_, rfl⟩
  have hpp : p = (-D.2).toNat := hp
  have QV := hid (show ∀ w, Calls Tryd.prog 72 #[.int .u64 x] w fun e w' => RetQD 3 w D 1200 1100 e w' from fun w => by rw [hD]; exact qval_any x h0 h1 w)
  have hEX : exT x = dsh (negB x) (ptd (decD (exN D)) p) := by unfold exT; rw [← hD, ← hp]
  have hXN : exN D = (dA D * tnN (p : Int)) / (dB D * tnN (-(p : Int))) := by unfold exN; rw [← hp, rtN_down]
  have hdp : 0 < dB D * tnN (-(p : Int)) := Nat.mul_pos (dB_pos D) (tnN_pos _)
  have HXN := hid hXN
  obtain ⟨N, hN⟩ : ∃ N, N = exN D := ⟨_, rfl⟩
  rw [← hN] at hEX HXN
  obtain ⟨E, hE⟩ : ∃ E, E = 6000 := ⟨_, rfl⟩
  have hNb : N < 2 ^ E := by
    obtain ⟨s1, s2⟩ := scaled_bits D (p : Int) 1100 d4 d3 d2 (by omega) E (by omega)
    have h9 : N ≤ dA D * tnN (p : Int) := by rw [HXN.out]; exact Nat.div_le_self _ _
    exact Nat.lt_of_le_of_lt h9 s1
  have lN := zl_len_bits (N : Int) E (by rw [Int.natAbs_natCast]; exact hNb)
  have lD : (decD N).length ≤ E := decD_bits N E hNb (by omega)
  have lp := ptd_len (decD N) p
  have PT := hid (fun v w h => pointed_any v N p w h (by omega) (by omega))
  have DA := hid (fun w => dashed_any (ptd (decD N) p) x h0 h1 (by omega) w)
  rw [← hEX] at DA
  have HDP := hid hdp
  have HPP := hid hpp
  generalize exT x = T at *
  generalize ptd (decD N) p = T2 at *
  clear hEX hXN hp hD hN hNb lD lp d1 d4 hdp hpp
  have lN2 : (zl (N : Int)).length ≤ 6000 := by omega
  clear lN hE E
  go_enter Tryd.func53, Tryd.ntmps53
  go_upto_region 2 with (go_at_call 72; (with_reducible refine (QV.out _).mono ?_); rintro en w1 ⟨v, rfl, ⟨X, n, ao, cap, rfl, hNX, hDX, hX, hn⟩, hb1⟩)
  have lX := zl_len_bits X 1200 hX
  have TT := hid (show ∀ w, Nz 3 w ao cap (zl X) → Calls Tryd.prog 125 #[.agg #[.bool (zneg X), .slice ao (zl X).length cap, .int .i64 (n : Int)], .int .i64 (p : Int)] w (RetTT 3 w D (p : Int)) from fun w h => tenTimes_any _ D 1200 1100 (p : Int) w ⟨X, n, ao, cap, rfl, h, hDX, hX, hn⟩ (by omega) (by omega) (by have := HPP.out; omega))
  refine wp_worldZ (fun WW => Below w.heap.size w WW ∧ QL 44 WW w1.heap.size (zneg X) (.slice ao (zl X).length cap) (n : Int) ∧ Nz 3 WW ao cap (zl X)) ⟨below_trans hb1 (below_alloc _ _), QL.made rfl, hNX.below (below_alloc _ _)⟩ ?_
  intro W3 ⟨y3, z3, hN3⟩
  obtain ⟨g3, hg3⟩ : ∃ g, g = w1.heap.size := ⟨_, rfl⟩
  rw [← hg3] at z3 ⊢
  have H3 := hid z3
  have HN3 := hid hN3
  have HP := hid (show (X ≠ 0 → p = max 0 (n - tw X.natAbs)) ∧ (X = 0 → p = 0) from by
    have hpp := HPP.out
    refine ⟨fun hX0 => ?_, fun hX0 => ?_⟩
    · have h2 : D.2 = -(n : Int) + tw X.natAbs := by rw [← hDX]; unfold nrm; rw [if_neg hX0]
      omega
    · rw [hX0] at hDX
      rw [hpp, ← hDX]; rfl)
  obtain ⟨⟨j0, j1, -⟩, j2, -⟩ := z3
  clear hg3 hNX hb1 hN3 hDX hX QV
  have lz : 0 ≤ ((zl X).length : Int) := by omega
  go_upto_if 20 with fail
  go_cut [5] (fun s5 wx => s5 = .int .i64 (p : Int) ∧ Below W3.heap.size W3 wx)
  case first => as_aux_lemma =>
    by_cases hX0 : X = 0
    · have hl0 : (zl X).length = 0 := by rw [hX0]; rfl
      have hl1 : decide (0 < (zl X).length) = false := decide_eq_false (by omega)
      have hl2 : ¬ 0 < (zl X).length := by omega
      have hp0 := hid (HP.out.2 hX0)
      clear hX0 hl0
      go_wp2_with fail
      go_meet
      exact ⟨by rw [hp0.out]; rfl, Below.refl _ _⟩
    · have hl1 : 0 < (zl X).length := by
        rcases Nat.eq_zero_or_pos (zl X).length with h | h
        · exact absurd ((zl_zero_iff X).1 h) hX0
        · exact h
      have hp2 : p = max 0 (n - tw X.natAbs) := HP.out.1 hX0
      have TW := hid (fun w h => ztwos_any ao cap X w h (by omega) hX0)
      obtain ⟨k, hk⟩ : ∃ k, k = tw X.natAbs := ⟨_, rfl⟩
      rw [← hk] at TW hp2
      have hk2 : k ≤ 20000 := by
        have h9 := (tw_bound (n := k) (z := X / pw (tw X.natAbs)) (x := X) (L := 1200) (by rw [hk]; exact (div_pw_tw X).symm) (by
          intro h; have := div_pw_tw X; rw [h, Int.zero_mul] at this; exact hX0 this.symm) lX).1
        omega
      generalize X / pw (tw X.natAbs) = X2 at *
      have hmx : max 0 ((n : Int) - (k : Int)) = (p : Int) := by omega
      have hwx : IntKind.i64.wrap ((n : Int) - (k : Int)) = (n : Int) - (k : Int) := IntWalk.i64_in _ (by omega)
      clear hp2 hk hX0 HP HPP
      go_wp2_with (go_at_call 90; (with_reducible refine (TW.out _ HN3.out).mono ?_); rintro en w4 ⟨a7, c7, rfl, hN7, hb4⟩)
      go_meet
      exact ⟨rfl, below_trans hb4 (below_alloc _ _)⟩
  case rest =>
    obtain ⟨rfl, y4⟩ := hcut
    obtain ⟨W4, hW4⟩ : ∃ W, W = wc := ⟨_, rfl⟩
    subst hW4
    have y5 := below_trans y3 y4
    have HN4 := hid (HN3.out.below y4)
    have z3 := H3.out.below y4
    obtain ⟨⟨j0, j1, -⟩, j2, -⟩ := z3
    clear y3 y4 H3 HN3 HP HPP lz
    go_upto_region 7 with (go_at_call 125; (with_reducible refine (TT.out _ HN4.out).mono ?_); rintro en w5 ⟨a, b, v2, rfl, ⟨a8, c8, a9, c9, rfl, hNa, hNb⟩, hb0, hab, la, lb, hb5⟩)
    have hzz := zv_made2 (tz := 42) hNa hNb
    refine wp_worldZ (fun WW => Below w5.heap.size w5 WW ∧ ZV 42 3 WW w5.heap.size (a : Int) ∧ ZV 42 3 WW (w5.heap.size + 1) (b : Int)) hzz ?_
    intro W5 ⟨y6, z8, z9⟩
    obtain ⟨g9, hg9⟩ : ∃ g, g = w5.heap.size + 1 := ⟨_, rfl⟩
    obtain ⟨g8, hg8⟩ : ∃ g, g = w5.heap.size := ⟨_, rfl⟩
    have y7 := below_trans (below_trans y5 hb5) y6
    rw [← hg9] at z9 ⊢
    rw [← hg8] at z8 ⊢
    have HQ := hid (show (a : Int) / (b : Int) = (N : Int) by
      rw [← Int.natCast_ediv, HXN.out, (ratio_eq hb0 HDP.out hab).1])
    obtain ⟨x8, d8, zl8, n8⟩ := z8
    obtain ⟨x9, d9, zl9, n9⟩ := z9
    have N8 := hid n8
    have N9 := hid n9
    have DV := hid (show ∀ w, Nz 3 w x8 d8 (zl (a : Int)) → Nz 3 w x9 d9 (zl (b : Int)) → Calls Tryd.prog 50 #[.agg #[.bool (zneg (a : Int)), .slice x8 (zl (a : Int)).length d8], .agg #[.bool (zneg (b : Int)), .slice x9 (zl (b : Int)).length d9]] w fun e w' => RetZ2 3 w (N : Int) ((a : Int) % (b : Int)) e w' from fun w h k => by
      have h9 := zdiv_any x8 x9 d8 d9 (a : Int) (b : Int) w h k (by omega) (by omega) (by omega)
      rwa [HQ.out] at h9)
    obtain ⟨k0, k1, -⟩ := zl8
    obtain ⟨k2, k3, -⟩ := zl9
    generalize (a : Int) % (b : Int) = R9 at *
    clear hg8 hg9 hzz n8 n9 hNa hNb hb5 y6 y5 hab la lb hb0 j0 j1 j2 HN4 TT HXN HDP HQ
    go_upto_region 8 with (go_at_call 50; (with_reducible refine (DV.out _ N8.out N9.out).mono ?_); rintro en w6 ⟨a10, c10, a11, c11, rfl, hNq, hNr, hb6⟩)
    have hzz := zv_made2 (tz := 42) hNq hNr
    refine wp_worldZ (fun WW => Below w6.heap.size w6 WW ∧ ZV 42 3 WW w6.heap.size (N : Int) ∧ ZV 42 3 WW (w6.heap.size + 1) R9) hzz ?_
    intro W6 ⟨y8, z10, _⟩
    obtain ⟨g10, hg10⟩ : ∃ g, g = w6.heap.size := ⟨_, rfl⟩
    have y9 := below_trans (below_trans y7 hb6) y8
    rw [← hg10] at z10 ⊢
    obtain ⟨x10, d10, zl10, n10⟩ := z10
    obtain ⟨l0, l1, -⟩ := zl10
    have PT2 := hid (fun w h => PT.out (.agg #[.bool (zneg (N : Int)), .slice x10 (zl (N : Int)).length d10]) w ⟨x10, d10, rfl, h⟩)
    have N10 := hid n10
    clear hg10 hzz n10 hNq hNr hb6 y8 y7 k0 k1 k2 k3 N8 N9 DV PT
    go_wp2_with (first
      | (go_at_call 126; (with_reducible refine (PT2.out _ N10.out).mono ?_); rintro en w7 ⟨rfl, hb7⟩)
      | (go_at_call 36; (with_reducible refine (DA.out _).mono ?_); rintro en w8 ⟨rfl, rfl⟩))
    go_ret
    exact ⟨rfl, below_trans y9 hb7⟩
theorem decimalExact_walk (x : Int) (hx : 0 ≤ x ∧ x ≤ 18446744073709551615) (W : World) (hT : Tab 0 W) (hT10 : Tab10 W) :
    Calls Tryd.prog 8 #[.int .u64 x] W fun e w' => e = .returned (.bool true) ∧ Below W.heap.size W w' := by
  have h0 : 0 ≤ x := hx.1
  have h1 : x < 18446744073709551616 := by omega
  have HV := hid (fun w => hasV_any x h0 h1 w)
  by_cases hv : hasVal x = true
  · have E1 := hid (fun w t u => exactP_some x h0 h1 hv w t u)
    have E2 := hid (fun w => exactText_any x h0 h1 w)
    rw [hv] at HV
    generalize exT x = T at *
    have HT := hid hT
    have HT10 := hid hT10
    clear hv hT hT10
    go_enter Tryd.func8, Tryd.ntmps8
    go_wp2_with (first
      | (go_at_call 52; (with_reducible refine (E1.out _ HT.out HT10.out).mono ?_); rintro en w1 ⟨rfl, hb1⟩)
      | (go_at_call 33; (with_reducible refine (HV.out _).mono ?_); rintro en w2 ⟨rfl, rfl⟩)
      | (go_at_call 53; (with_reducible refine (E2.out _).mono ?_); rintro en w3 ⟨rfl, hb3⟩))
    go_ret
    exact ⟨rfl, below_trans hb1 hb3⟩
  · have hv : hasVal x = false := by simpa using hv
    have E1 := hid (fun w => exactP_none x h0 h1 hv w)
    rw [hv] at HV
    clear hv hT hT10
    go_enter Tryd.func8, Tryd.ntmps8
    go_wp2_with (first
      | (go_at_call 52; (with_reducible refine (E1.out _).mono ?_); rintro en w1 ⟨rfl, rfl⟩)
      | (go_at_call 33; (with_reducible refine (HV.out _).mono ?_); rintro en w2 ⟨rfl, rfl⟩))
    go_ret
    exact ⟨rfl, Below.refl _ _⟩
end Go.Proofs.YtincggkdlegjjaaDoor
