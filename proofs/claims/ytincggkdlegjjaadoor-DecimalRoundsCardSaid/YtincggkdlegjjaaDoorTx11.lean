/- decimal.Fixed and Sci. -/
import Derived.Test.YtincggkdlegjjaaDoorTx9
import Derived.Test.YtincggkdlegjjaaDoorTx10
set_option linter.unusedVariables false
set_option linter.unusedSimpArgs false
namespace Go.Ulp
open Go.RowKit
/-- to so many places -/
def fxN (x : Int) (p : Nat) (mode : Int) : Nat := rtN (negB x) (dA (fv x) * tnN (p : Int)) (dB (fv x) * tnN (-(p : Int))) mode
def fxC (x : Int) (p : Nat) : Bool := rtC (dA (fv x) * tnN (p : Int)) (dB (fv x) * tnN (-(p : Int)))
def fxT (x : Int) (p : Nat) (mode : Int) : List UInt8 := dsh (negB x) (ptd (decD (fxN x p mode)) p)
theorem rtN_zero (neg : Bool) (b : Nat) (mode : Int) : rtN neg 0 b mode = 0 := by unfold rtN; simp
theorem rtN_sign (D : Dy) (neg : Bool) (h : 0 < D.1.natAbs → decide (D.1 < 0) = neg) (t : Int) (b : Nat) (mode : Int) : rtN (decide (D.1 < 0)) (dA D * tnN t) b mode = rtN neg (dA D * tnN t) b mode := by
  rcases Nat.eq_zero_or_pos D.1.natAbs with h0 | h0
  · have : dA D = 0 := by unfold dA; rw [h0, Nat.zero_mul]
    rw [this, Nat.zero_mul, rtN_zero, rtN_zero]
  · rw [h h0]
theorem fv_sign2 (x : Int) (h : 0 < (fv x).1.natAbs) : decide ((fv x).1 < 0) = negB x := by
  have h1 : (fv x).1 ≠ 0 := by omega
  unfold fv at h1 ⊢
  have h2 : sg (negB x) (mantOf x) ≠ 0 := fun h => h1 ((nrm_zero_iff _ _).2 h)
  obtain ⟨k, h3, -⟩ := nrm_rep (sg (negB x) (mantOf x)) (dexp x)
  have hp := pw_pos k
  generalize (nrm (sg (negB x) (mantOf x)) (dexp x)).1 = y at *
  have hm : 0 ≤ mantOf x := by
    have := (show 0 ≤ fracOf x by unfold fracOf; omega)
    unfold mantOf; split <;> omega
  cases hn : negB x
  · rw [hn] at h3 h2
    have h4 : 0 < y * pw k := by rw [← h3]; unfold sg at h2 ⊢; simp at h2 ⊢; omega
    refine decide_eq_false ?_
    intro h5
    have := Int.mul_neg_of_neg_of_pos h5 hp
    omega
  · rw [hn] at h3 h2
    have h4 : y * pw k < 0 := by rw [← h3]; unfold sg at h2 ⊢; simp at h2 ⊢; omega
    refine decide_eq_true ?_
    rcases Int.lt_or_le y 0 with h5 | h5
    · exact h5
    · have := Int.mul_nonneg h5 (Int.le_of_lt hp)
      omega
/-- in so many digits -/
def scQ (x : Int) (k : Nat) (pd mode : Int) : Nat := sciQ (negB x) (dA (fv x)) (dB (fv x)) k pd mode
def scS (x : Int) (k : Nat) (pd mode : Int) : List UInt8 := if (fv x).1 = 0 then List.replicate (k + 1) 48 else sciD (scQ x k pd mode) k
def scP (x : Int) (k : Nat) (pd mode : Int) : Int := if (fv x).1 = 0 then 0 else sciP (scQ x k pd mode) k pd
def scC (x : Int) (k : Nat) (pd : Int) : Bool := if (fv x).1 = 0 then false else sciC (dA (fv x)) (dB (fv x)) k pd
def scT (x : Int) (k : Nat) (pd mode : Int) : List UInt8 := dsh (negB x) (ptd (scS x k pd mode) k ++ 101 :: pwrT (scP x k pd mode))
end Go.Ulp
namespace Go.Proofs.YtincggkdlegjjaaDoor
open Go.RowKit Go.Ulp
set_option linter.unusedVariables false
set_option linter.unusedSimpArgs false
set_option maxHeartbeats 2000000
set_option maxRecDepth 100000
theorem knownT_any (mode : Int) (w : World) : Calls Tryd.prog 58 #[.int .i64 mode] w fun e w' => e = .returned (.bool (decide (0 ≤ mode ∧ mode ≤ 4))) ∧ w = w' := by
  obtain ⟨K, hK⟩ : ∃ K, K = decide (0 ≤ mode ∧ mode ≤ 4) := ⟨_, rfl⟩
  rw [← hK]
  by_cases h : 0 ≤ mode
  · have HC := hid (show decide (mode ≤ 4) = K by rw [hK, decide_eq_decide]; omega)
    clear hK
    go_enter Tryd.func58, Tryd.ntmps58
    go_wp2_with fail
    go_ret
    exact ⟨ret_bool HC.out, rfl⟩
  · have HC := hid (show false = K by rw [hK, eq_comm]; exact decide_eq_false (by omega))
    clear hK
    go_enter Tryd.func58, Tryd.ntmps58
    go_wp2_with fail
    go_ret
    exact ⟨ret_bool HC.out, rfl⟩
theorem fixedP_none (x p mode : Int) (h0 : 0 ≤ x) (h1 : x < 18446744073709551616) (hv : hasVal x = false) (w : World) :
    Calls Tryd.prog 54 #[.int .u64 x, .int .i64 p, .int .i64 mode] w fun e w' => e = .returned (.tuple #[.string ⟨#[]⟩, .bool false, .int .i64 4]) ∧ w = w' := by
  have HV := hid (show ∀ w, Calls Tryd.prog 101 #[.int .u64 x] w fun e w' => e = .returned (.bool false) ∧ w = w' from fun w => by
    have h9 := hasValue_any x h0 h1 w
    rwa [hv] at h9)
  go_enter Tryd.func54, Tryd.ntmps54
  go_wp2_with (go_at_call 101; (with_reducible refine (HV.out _).mono ?_); rintro en w1 ⟨rfl, rfl⟩)
  go_ret3
  exact ⟨rfl, rfl⟩
theorem fixedP_arg (x p mode : Int) (h0 : 0 ≤ x) (h1 : x < 18446744073709551616) (hv : hasVal x = true) (hb : ¬ ((0 ≤ mode ∧ mode ≤ 4) ∧ (0 ≤ p ∧ p ≤ 1100))) (w : World) :
    Calls Tryd.prog 54 #[.int .u64 x, .int .i64 p, .int .i64 mode] w fun e w' => e = .returned (.tuple #[.string ⟨#[]⟩, .bool false, .int .i64 1]) ∧ w = w' := by
  have HV := hid (show ∀ w, Calls Tryd.prog 101 #[.int .u64 x] w fun e w' => e = .returned (.bool true) ∧ w = w' from fun w => by
    have h9 := hasValue_any x h0 h1 w
    rwa [hv] at h9)
  have KN := hid (fun w => knownT_any mode w)
  by_cases hm : 0 ≤ mode ∧ mode ≤ 4
  · rw [decide_eq_true hm] at KN
    by_cases hp : p < 0
    · clear hb hm
      go_enter Tryd.func54, Tryd.ntmps54
      go_wp2_with (first
        | (go_at_call 101; (with_reducible refine (HV.out _).mono ?_); rintro en w1 ⟨rfl, rfl⟩)
        | (go_at_call 58; (with_reducible refine (KN.out _).mono ?_); rintro en w1 ⟨rfl, rfl⟩))
      go_ret3
      exact ⟨rfl, rfl⟩
    · have hp2 : 1100 < p := by omega
      have hp3 : decide (p < 0) = false := decide_eq_false hp
      clear hb hm
      go_enter Tryd.func54, Tryd.ntmps54
      go_wp2_with (first
        | (go_at_call 101; (with_reducible refine (HV.out _).mono ?_); rintro en w1 ⟨rfl, rfl⟩)
        | (go_at_call 58; (with_reducible refine (KN.out _).mono ?_); rintro en w1 ⟨rfl, rfl⟩))
      go_ret3
      exact ⟨rfl, rfl⟩
  · rw [decide_eq_false hm] at KN
    clear hb hm
    go_enter Tryd.func54, Tryd.ntmps54
    go_wp2_with (first
      | (go_at_call 101; (with_reducible refine (HV.out _).mono ?_); rintro en w1 ⟨rfl, rfl⟩)
      | (go_at_call 58; (with_reducible refine (KN.out _).mono ?_); rintro en w1 ⟨rfl, rfl⟩))
    go_ret3
    exact ⟨rfl, rfl⟩
theorem fixedP_ok (x mode : Int) (p : Nat) (h0 : 0 ≤ x) (h1 : x < 18446744073709551616) (hv : hasVal x = true) (m0 : 0 ≤ mode) (m1 : mode ≤ 4) (hp : p ≤ 1100) (w : World) (hT : Tab 0 w) (hT10 : Tab10 w) :
    Calls Tryd.prog 54 #[.int .u64 x, .int .i64 (p : Int), .int .i64 mode] w fun e w' => e = .returned (.tuple #[.string (bsOf (fxT x p mode)), .bool (fxC x p), .int .i64 0]) ∧ Below w.heap.size w w' := by
  have FS := fv_sign2 x
  obtain ⟨d1, d2, d3⟩ := fv_small x h0 h1
  obtain ⟨-, d4, -⟩ := fv_bd x h0 h1
  have hFX : fxT x p mode = dsh (negB x) (ptd (decD (fxN x p mode)) p) := rfl
  have hFN : fxN x p mode = rtN (decide ((fv x).1 < 0)) (dA (fv x) * tnN (p : Int)) (dB (fv x) * tnN (-(p : Int))) mode := (rtN_sign _ _ FS _ _ _).symm
  have hFC : fxC x p = rtC (dA (fv x) * tnN (p : Int)) (dB (fv x) * tnN (-(p : Int))) := rfl
  obtain ⟨E, hE⟩ : ∃ E, E = 5500 := ⟨_, rfl⟩
  obtain ⟨s1, s2⟩ := scaled_bits (fv x) (p : Int) 1100 d4 d3 d2 (by omega) E (by omega)
  have SCe := hid (fun v w h => scaled_any v (fv x) (p : Int) w h (by omega) (by omega) (by omega))
  have VA := hid (fun w t => value_any x h0 h1 w t)
  generalize fv x = D at *
  obtain ⟨A, hA⟩ : ∃ A, A = dA D * tnN (p : Int) := ⟨_, rfl⟩
  obtain ⟨B, hB⟩ : ∃ B, B = dB D * tnN (-(p : Int)) := ⟨_, rfl⟩
  have hB0 : 0 < B := by rw [hB]; exact Nat.mul_pos (dB_pos D) (tnN_pos _)
  rw [← hA, ← hB] at hFN hFC SCe
  rw [← hA] at s1
  rw [← hB] at s2
  obtain ⟨N, hN⟩ : ∃ N, N = fxN x p mode := ⟨_, rfl⟩
  rw [← hN] at hFN hFX
  have hNA : N ≤ A + 1 := by
    have h1 := (rtN_ge (decide (D.1 < 0)) A B mode).2
    have h2 := Nat.div_le_self A B
    omega
  have hNE : N < 2 ^ (E + 1) := by rw [Nat.pow_succ]; have := Nat.two_pow_pos E; omega
  have lA := limbs_short2 E 200 (by omega) A s1
  have lB := limbs_short2 E 200 (by omega) B s2
  have lN := limbs_short2 (E + 1) 200 (by omega) N hNE
  have lD : (decD N).length ≤ 10000 := Nat.le_trans (decD_bits N (E + 1) hNE (by omega)) (by omega)
  have RO := hid (fun g w h => by
    have h9 := ratioRound_any g (decide (D.1 < 0)) A B mode w h (by omega) hB0 (by omega)
    rwa [← hFN, ← hFC] at h9)
  have DE := hid (fun ao c w h t => decimal_any ao c N w h (by omega) t)
  have PT := hid (fun w => point_any (decD N) p w (by omega) (by omega))
  have SG := hid (fun w => signT_any x h0 h1 w)
  have HV := hid (show ∀ w, Calls Tryd.prog 101 #[.int .u64 x] w fun e w' => e = .returned (.bool true) ∧ w = w' from fun w => by
    have h9 := hasValue_any x h0 h1 w
    rwa [hv] at h9)
  have KN := hid (show ∀ w, Calls Tryd.prog 58 #[.int .i64 mode] w fun e w' => e = .returned (.bool true) ∧ w = w' from fun w => by
    have h9 := knownT_any mode w
    rwa [decide_eq_true (show 0 ≤ mode ∧ mode ≤ 4 from ⟨m0, m1⟩)] at h9)
  have hlp := ptd_len (decD N) p
  have hAD := add_bs (P := Tryd.prog) (if negB x = true then [45] else []) (ptd (decD N) p) (by split <;> simp <;> omega)
  rw [dsh_app, ← hFX] at hAD
  have HT := hid hT
  have HT10 := hid hT10
  have hp1 : ¬ (p : Int) < 0 := by omega
  have hp2 : ¬ 1100 < (p : Int) := by omega
  generalize fxT x p mode = T at *
  generalize fxC x p = C at *
  generalize ptd (decD N) p = T2 at *
  generalize (if negB x = true then [45] else []) = T1 at *
  generalize decD N = T3 at *
  clear hN hA hB hFX hFN hFC hNA hNE s1 s2 lA lB lN d1 d4 hB0 hT hT10 hv hlp lD hE E FS
  go_enter Tryd.func54, Tryd.ntmps54
  go_wp2_with (first
    | (go_at_call 101; (with_reducible refine (HV.out _).mono ?_); rintro en w1 ⟨rfl, rfl⟩)
    | (go_at_call 58; (with_reducible refine (KN.out _).mono ?_); rintro en w1 ⟨rfl, rfl⟩)
    | (go_at_call 63; (with_reducible refine (VA.out _ HT.out).mono ?_); rintro en w2 ⟨v, rfl, hv2, hb2⟩)
    | (go_at_call 121; (with_reducible refine (SCe.out _ _ hv2).mono ?_); rintro en w5 ⟨g5, rfl, hr5, hb5⟩)
    | (go_at_call 122; (with_reducible refine (RO.out _ _ hr5).mono ?_); rintro en w6 ⟨aq, cq, rfl, hNq, hb6⟩; have y6 := below_trans (below_trans hb2 hb5) hb6)
    | (go_at_call 123; (with_reducible refine (SG.out _).mono ?_); rintro en w7 ⟨rfl, rfl⟩)
    | (go_at_call 116; (with_reducible refine (DE.out _ _ _ hNq (HT10.out.below y6)).mono ?_); rintro en w8 ⟨rfl, hb8⟩)
    | (go_at_call 124; (with_reducible refine (PT.out _).mono ?_); rintro en w9 ⟨rfl, hb9⟩))
  all_goals go_ret3
  all_goals exact ⟨rfl, below_trans (below_trans y6 hb8) hb9⟩
theorem sciP_none (x k mode : Int) (h0 : 0 ≤ x) (h1 : x < 18446744073709551616) (hv : hasVal x = false) (w : World) :
    Calls Tryd.prog 55 #[.int .u64 x, .int .i64 k, .int .i64 mode] w fun e w' => e = .returned (.tuple #[.string ⟨#[]⟩, .bool false, .int .i64 4]) ∧ w = w' := by
  have HV := hid (show ∀ w, Calls Tryd.prog 101 #[.int .u64 x] w fun e w' => e = .returned (.bool false) ∧ w = w' from fun w => by
    have h9 := hasValue_any x h0 h1 w
    rwa [hv] at h9)
  go_enter Tryd.func55, Tryd.ntmps55
  go_wp2_with (go_at_call 101; (with_reducible refine (HV.out _).mono ?_); rintro en w1 ⟨rfl, rfl⟩)
  go_ret3
  exact ⟨rfl, rfl⟩
theorem sciP_arg (x k mode : Int) (h0 : 0 ≤ x) (h1 : x < 18446744073709551616) (hv : hasVal x = true) (hb : ¬ ((0 ≤ mode ∧ mode ≤ 4) ∧ (1 ≤ k ∧ k ≤ 800))) (w : World) :
    Calls Tryd.prog 55 #[.int .u64 x, .int .i64 k, .int .i64 mode] w fun e w' => e = .returned (.tuple #[.string ⟨#[]⟩, .bool false, .int .i64 1]) ∧ w = w' := by
  have HV := hid (show ∀ w, Calls Tryd.prog 101 #[.int .u64 x] w fun e w' => e = .returned (.bool true) ∧ w = w' from fun w => by
    have h9 := hasValue_any x h0 h1 w
    rwa [hv] at h9)
  have KN := hid (fun w => knownT_any mode w)
  by_cases hm : 0 ≤ mode ∧ mode ≤ 4
  · rw [decide_eq_true hm] at KN
    by_cases hp : k < 1
    · clear hb hm
      go_enter Tryd.func55, Tryd.ntmps55
      go_wp2_with (first
        | (go_at_call 101; (with_reducible refine (HV.out _).mono ?_); rintro en w1 ⟨rfl, rfl⟩)
        | (go_at_call 58; (with_reducible refine (KN.out _).mono ?_); rintro en w1 ⟨rfl, rfl⟩))
      go_ret3
      exact ⟨rfl, rfl⟩
    · have hp2 : 800 < k := by omega
      have hp3 : decide (k < 1) = false := decide_eq_false hp
      clear hb hm
      go_enter Tryd.func55, Tryd.ntmps55
      go_wp2_with (first
        | (go_at_call 101; (with_reducible refine (HV.out _).mono ?_); rintro en w1 ⟨rfl, rfl⟩)
        | (go_at_call 58; (with_reducible refine (KN.out _).mono ?_); rintro en w1 ⟨rfl, rfl⟩))
      go_ret3
      exact ⟨rfl, rfl⟩
  · rw [decide_eq_false hm] at KN
    clear hb hm
    go_enter Tryd.func55, Tryd.ntmps55
    go_wp2_with (first
      | (go_at_call 101; (with_reducible refine (HV.out _).mono ?_); rintro en w1 ⟨rfl, rfl⟩)
      | (go_at_call 58; (with_reducible refine (KN.out _).mono ?_); rintro en w1 ⟨rfl, rfl⟩))
    go_ret3
    exact ⟨rfl, rfl⟩
/-- Digits of a number's value -/
theorem digitsX_any (x : Int) (h0 : 0 ≤ x) (h1 : x < 18446744073709551616) (v : Value) (k : Nat) (mode pd : Int) (w : World) (hv : VD w (fv x) v) (hp : (fv x).1 ≠ 0 → IsDec (dA (fv x)) (dB (fv x)) pd) (hpb : -3000 ≤ pd ∧ pd ≤ 3000) (hk : k ≤ 2000) (hT10 : Tab10 w) :
    Calls Tryd.prog 127 #[v, .int .i64 ((k : Int) + 1), .int .i64 mode] w fun e w' => e = .returned (.tuple #[.string (bsOf (scS x k pd mode)), .int .i64 (scP x k pd mode), .bool (scC x k pd)]) ∧ Below w.heap.size w w' := by
  obtain ⟨d1, d2, d3⟩ := fv_small x h0 h1
  obtain ⟨-, d4, -⟩ := fv_bd x h0 h1
  by_cases hz : (fv x).1 = 0
  · unfold scS scP scC
    rw [if_pos hz, if_pos hz, if_pos hz]
    exact digitsZ_any v (fv x) (k + 1) mode w hv hz (by omega)
  · unfold scS scP scC scQ
    rw [if_neg hz, if_neg hz, if_neg hz, ← fv_sign2 x (by omega)]
    have d5 : (fv x).1.natAbs < 2 ^ 60 := Nat.lt_of_lt_of_le d4 (Nat.pow_le_pow_right (by omega) (by omega))
    exact digits10_any v (fv x) k mode pd w hv hz d5 ⟨by omega, by omega⟩ (hp hz) hpb hk hT10
theorem sciP_ok (x mode pd : Int) (k : Nat) (h0 : 0 ≤ x) (h1 : x < 18446744073709551616) (hv : hasVal x = true) (m0 : 0 ≤ mode) (m1 : mode ≤ 4) (hk : k < 800) (hp : (fv x).1 ≠ 0 → IsDec (dA (fv x)) (dB (fv x)) pd) (hpb : -3000 ≤ pd ∧ pd ≤ 3000) (w : World) (hT : Tab 0 w) (hT10 : Tab10 w) :
    Calls Tryd.prog 55 #[.int .u64 x, .int .i64 ((k : Int) + 1), .int .i64 mode] w fun e w' => e = .returned (.tuple #[.string (bsOf (scT x k pd mode)), .bool (scC x k pd), .int .i64 0]) ∧ Below w.heap.size w w' := by
  have hSC : scT x k pd mode = dsh (negB x) (ptd (scS x k pd mode) k ++ 101 :: pwrT (scP x k pd mode)) := rfl
  have DX := hid (fun v w h t => digitsX_any x h0 h1 v k mode pd w h hp hpb (by omega) t)
  have VA := hid (fun w t => value_any x h0 h1 w t)
  have hSl : (scS x k pd mode).length ≤ k + 1 := by
    unfold scS
    split
    · rw [List.length_replicate]; omega
    · rename_i hz
      obtain ⟨q1, q2⟩ := sciQ_bd (negB x) (dA (fv x)) (dB (fv x)) k pd mode (dB_pos _) (hp hz)
      exact Nat.le_of_eq (sciD_len _ _ q1 q2)
  have hPb : -3001 ≤ scP x k pd mode ∧ scP x k pd mode ≤ 3001 := by
    unfold scP sciP
    split
    · omega
    · split <;> omega
  obtain ⟨P, hP⟩ : ∃ P, P = scP x k pd mode := ⟨_, rfl⟩
  rw [← hP] at hSC hPb DX
  have hpl : (pwrT P).length ≤ 10 := by
    unfold pwrT
    have := decD_len 3 P.natAbs (by omega)
    rw [List.length_cons, List.length_append]
    split <;> simp <;> omega
  have PW := hid (fun w t => power_any P (by omega) w t)
  have PT := hid (fun w => point_any (scS x k pd mode) k w (by omega) (by omega))
  have hlp := ptd_len (scS x k pd mode) k
  have SG := hid (fun w => signT_any x h0 h1 w)
  have HV := hid (show ∀ w, Calls Tryd.prog 101 #[.int .u64 x] w fun e w' => e = .returned (.bool true) ∧ w = w' from fun w => by
    have h9 := hasValue_any x h0 h1 w
    rwa [hv] at h9)
  have KN := hid (show ∀ w, Calls Tryd.prog 58 #[.int .i64 mode] w fun e w' => e = .returned (.bool true) ∧ w = w' from fun w => by
    have h9 := knownT_any mode w
    rwa [decide_eq_true (show 0 ≤ mode ∧ mode ≤ 4 from ⟨m0, m1⟩)] at h9)
  have hA1 := add_bs (P := Tryd.prog) (if negB x = true then [45] else []) (ptd (scS x k pd mode) k) (by split <;> simp <;> omega)
  have hA2 := add_bs (P := Tryd.prog) (dsh (negB x) (ptd (scS x k pd mode) k)) [101] (by unfold dsh; split <;> simp <;> omega)
  have hA3 := add_bs (P := Tryd.prog) (dsh (negB x) (ptd (scS x k pd mode) k) ++ [101]) (pwrT P) (by unfold dsh; split <;> simp <;> omega)
  rw [dsh_app] at hA1
  have hFIN : dsh (negB x) (ptd (scS x k pd mode) k) ++ [101] ++ pwrT P = scT x k pd mode := by
    rw [hSC]; unfold dsh; split <;> simp
  rw [hFIN] at hA3
  have hb101 : (ByteArray.mk #[101]) = bsOf [101] := rfl
  have HT := hid hT
  have HT10 := hid hT10
  have hk1 : ¬ (k : Int) + 1 < 1 := by omega
  have hk2 : ¬ 800 < (k : Int) + 1 := by omega
  have hwk : (k : Int) + 1 - 1 = (k : Int) := by omega
  have hwk2 : IntKind.i64.wrap (k : Int) = (k : Int) := IntWalk.i64_in _ (by omega)
  have y0 := Below.refl w.heap.size w
  generalize dsh (negB x) (ptd (scS x k pd mode) k) ++ [101] = T5 at *
  generalize dsh (negB x) (ptd (scS x k pd mode) k) = T4 at *
  generalize ptd (scS x k pd mode) k = T3 at *
  generalize scT x k pd mode = T at *
  generalize scS x k pd mode = S at *
  generalize scC x k pd = C at *
  generalize (if negB x = true then [45] else []) = T1 at *
  generalize pwrT P = T2 at *
  clear hSC hSl hPb hP hpl hlp hFIN hT hT10 hv hp hpb
  go_enter Tryd.func55, Tryd.ntmps55
  go_wp2_with (first
    | (go_at_call 101; (with_reducible refine (HV.out _).mono ?_); rintro en w1 ⟨rfl, rfl⟩)
    | (go_at_call 58; (with_reducible refine (KN.out _).mono ?_); rintro en w1 ⟨rfl, rfl⟩)
    | (go_at_call 63; (with_reducible refine (VA.out _ HT.out).mono ?_); rintro en w2 ⟨v, rfl, hv2, hb2⟩)
    | (go_at_call 127; (with_reducible refine (DX.out _ _ hv2 (HT10.out.below hb2)).mono ?_); rintro en w5 ⟨rfl, hb5⟩; have y5 := below_trans hb2 hb5)
    | (go_at_call 123; (with_reducible refine (SG.out _).mono ?_); rintro en w7 ⟨rfl, rfl⟩)
    | (go_at_call 124; (with_reducible refine (PT.out _).mono ?_); rintro en w9 ⟨rfl, hb9⟩; have y9 := below_trans y5 hb9)
    | (go_at_call 128; (with_reducible refine (PW.out _ (HT10.out.below y9)).mono ?_); rintro en w8 ⟨rfl, hb8⟩))
  all_goals go_ret3
  all_goals exact ⟨rfl, below_trans y9 hb8⟩
end Go.Proofs.YtincggkdlegjjaaDoor
