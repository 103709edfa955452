/- NatTells: Bits, Shift, Root, Text. -/
import Derived.Test.YtincggkdlegjjaaDoorTx2
import Derived.Test.YtincggkdlegjjaaDoorRn1
import Derived.Test.YtincggkdlegjjaaDoorNat13b
set_option linter.unusedVariables false
set_option linter.unusedSimpArgs false
namespace Go.Proofs.YtincggkdlegjjaaDoor
open Go.RowKit Go.Ulp
set_option linter.unusedVariables false
set_option linter.unusedSimpArgs false
set_option maxHeartbeats 1000000
set_option maxRecDepth 100000
theorem natBits_bad (ao : Option Addr) (cap : Nat) (L : List Nat) (w : World) (hN : Ns .u32 w ao cap L) (hE : limbE L ≠ 0) :
    Calls Tryd.prog 38 #[.slice ao L.length cap] w fun e w' => e = .returned (.tuple #[.int .i64 0, .int .i64 (limbE L)]) ∧ w = w' := by
  have CK := hid (fun w h => natCheck_any ao cap L w h)
  have H0 := hid hN
  have hne : (limbE L != 0) = true := by rw [bne_iff_ne]; exact hE
  generalize limbE L = E at *
  clear hN hE
  go_enter Tryd.func38, Tryd.ntmps38
  go_wp2_with (go_at_call 110; (with_reducible refine (CK.out _ H0.out).mono ?_); rintro en w1 ⟨rfl, rfl⟩)
  go_ret2
  exact ⟨rfl, rfl⟩
theorem natBits_ok (ao : Option Addr) (cap m : Nat) (w : World) (hN : Ns .u32 w ao cap (limbs m)) (hE : limbE (limbs m) = 0) (hl : (limbs m).length ≤ 400) :
    Calls Tryd.prog 38 #[.slice ao (limbs m).length cap] w fun e w' => e = .returned (.tuple #[.int .i64 (bl m : Int), .int .i64 0]) ∧ w = w' := by
  have CK := hid (fun w h => natCheck_any ao cap (limbs m) w h)
  have LN := hid (fun w h => natLen_any ao cap m w h (by omega))
  have H0 := hid hN
  rw [hE] at CK
  generalize bl m = bm at *
  clear hN hE hl
  go_enter Tryd.func38, Tryd.ntmps38
  go_wp2_with (first
    | (go_at_call 110; (with_reducible refine (CK.out _ H0.out).mono ?_); rintro en w1 ⟨rfl, rfl⟩)
    | (go_at_call 103; (with_reducible refine (LN.out _ H0.out).mono ?_); rintro en w1 ⟨rfl, rfl⟩))
  go_ret2
  exact ⟨rfl, rfl⟩
theorem natText_bad (ao : Option Addr) (cap : Nat) (L : List Nat) (w : World) (hN : Ns .u32 w ao cap L) (hE : limbE L ≠ 0) :
    Calls Tryd.prog 41 #[.slice ao L.length cap] w fun e w' => e = .returned (.tuple #[.string ⟨#[]⟩, .int .i64 (limbE L)]) ∧ w = w' := by
  have CK := hid (fun w h => natCheck_any ao cap L w h)
  have H0 := hid hN
  have hne : (limbE L != 0) = true := by rw [bne_iff_ne]; exact hE
  generalize limbE L = E at *
  clear hN hE
  go_enter Tryd.func41, Tryd.ntmps41
  go_wp2_with (go_at_call 110; (with_reducible refine (CK.out _ H0.out).mono ?_); rintro en w1 ⟨rfl, rfl⟩)
  go_ret2
  exact ⟨rfl, rfl⟩
theorem natText_ok (ao : Option Addr) (cap m : Nat) (w : World) (hN : Ns .u32 w ao cap (limbs m)) (hE : limbE (limbs m) = 0) (hl : (limbs m).length ≤ 400) (hT : Tab10 w) :
    Calls Tryd.prog 41 #[.slice ao (limbs m).length cap] w fun e w' => e = .returned (.tuple #[.string (bsOf (decD m)), .int .i64 0]) ∧ Below w.heap.size w w' := by
  have CK := hid (fun w h => natCheck_any ao cap (limbs m) w h)
  have DE := hid (fun w h t => decimal_any ao cap m w h (by omega) t)
  have H0 := hid hN
  have HT := hid hT
  rw [hE] at CK
  generalize decD m = D at *
  clear hN hE hl hT
  go_enter Tryd.func41, Tryd.ntmps41
  go_wp2_with (first
    | (go_at_call 110; (with_reducible refine (CK.out _ H0.out).mono ?_); rintro en w1 ⟨rfl, rfl⟩)
    | (go_at_call 116; (with_reducible refine (DE.out _ H0.out HT.out).mono ?_); rintro en w1 ⟨rfl, hb1⟩))
  go_ret2
  exact ⟨rfl, hb1⟩
theorem natRoot_bad (ao : Option Addr) (cap : Nat) (L : List Nat) (w : World) (hN : Ns .u32 w ao cap L) (hE : limbE L ≠ 0) :
    Calls Tryd.prog 40 #[.slice ao L.length cap] w fun e w' => e = .returned (.tuple #[.slice none 0 0, .bool false, .int .i64 (limbE L)]) ∧ w = w' := by
  have CK := hid (fun w h => natCheck_any ao cap L w h)
  have H0 := hid hN
  have hne : (limbE L != 0) = true := by rw [bne_iff_ne]; exact hE
  generalize limbE L = E at *
  clear hN hE
  go_enter Tryd.func40, Tryd.ntmps40
  go_wp2_with (go_at_call 110; (with_reducible refine (CK.out _ H0.out).mono ?_); rintro en w1 ⟨rfl, rfl⟩)
  refine bodyPost_ret (by simp [results, Tryd.results40, go_sem]; try rfl) rfl ?_
  exact ⟨rfl, rfl⟩
theorem natShift_bad (ao : Option Addr) (cap : Nat) (L : List Nat) (n : Int) (w : World) (hN : Ns .u32 w ao cap L) (hE : limbE L ≠ 0) :
    Calls Tryd.prog 39 #[.slice ao L.length cap, .int .i64 n] w fun e w' => e = .returned (.tuple #[.slice none 0 0, .bool false, .int .i64 (limbE L)]) ∧ w = w' := by
  have CK := hid (fun w h => natCheck_any ao cap L w h)
  have H0 := hid hN
  have hne : (limbE L != 0) = true := by rw [bne_iff_ne]; exact hE
  generalize limbE L = E at *
  clear hN hE
  go_enter Tryd.func39, Tryd.ntmps39
  go_wp2_with (go_at_call 110; (with_reducible refine (CK.out _ H0.out).mono ?_); rintro en w1 ⟨rfl, rfl⟩)
  refine bodyPost_ret (by simp [results, Tryd.results39, go_sem]; try rfl) rfl ?_
  exact ⟨rfl, rfl⟩
theorem natShift_far (ao : Option Addr) (cap m : Nat) (n : Int) (w : World) (hN : Ns .u32 w ao cap (limbs m)) (hE : limbE (limbs m) = 0) (hn : n < -20000 ∨ 20000 < n) :
    Calls Tryd.prog 39 #[.slice ao (limbs m).length cap, .int .i64 n] w fun e w' => e = .returned (.tuple #[.slice none 0 0, .bool false, .int .i64 1]) ∧ w = w' := by
  have CK := hid (fun w h => natCheck_any ao cap (limbs m) w h)
  have H0 := hid hN
  rw [hE] at CK
  clear hN hE
  by_cases h1 : n < -20000
  · clear hn
    go_enter Tryd.func39, Tryd.ntmps39
    go_wp2_with (go_at_call 110; (with_reducible refine (CK.out _ H0.out).mono ?_); rintro en w1 ⟨rfl, rfl⟩)
    refine bodyPost_ret (by simp [results, Tryd.results39, go_sem]; try rfl) rfl ?_
    exact ⟨rfl, rfl⟩
  · have h2 : 20000 < n := by omega
    clear hn
    go_enter Tryd.func39, Tryd.ntmps39
    go_wp2_with (go_at_call 110; (with_reducible refine (CK.out _ H0.out).mono ?_); rintro en w1 ⟨rfl, rfl⟩)
    refine bodyPost_ret (by simp [results, Tryd.results39, go_sem]; try rfl) rfl ?_
    exact ⟨rfl, rfl⟩
theorem natShift_up (ao : Option Addr) (cap m k : Nat) (w : World) (hN : Ns .u32 w ao cap (limbs m)) (hE : limbE (limbs m) = 0) (hl : (limbs m).length ≤ 400) (hk : k ≤ 20000) :
    Calls Tryd.prog 39 #[.slice ao (limbs m).length cap, .int .i64 (k : Int)] w fun e w' => ∃ a, e = .returned (.tuple #[.slice a (limbs (m * 2 ^ k)).length (limbs (m * 2 ^ k)).length, .bool false, .int .i64 0]) ∧ Ns .u32 w' a (limbs (m * 2 ^ k)).length (limbs (m * 2 ^ k)) ∧ Below w.heap.size w w' := by
  have CK := hid (fun w h => natCheck_any ao cap (limbs m) w h)
  have LE := hid (fun w h => leftN_any ao cap m k w h (by omega) (by omega))
  have H0 := hid hN
  rw [hE] at CK
  generalize m * 2 ^ k = R at *
  have h1 : ¬ (k : Int) < -20000 := by omega
  have h2 : ¬ 20000 < (k : Int) := by omega
  have h3 : 0 ≤ (k : Int) := by omega
  clear hN hE hl hk
  go_enter Tryd.func39, Tryd.ntmps39
  go_wp2_with (first
    | (go_at_call 110; (with_reducible refine (CK.out _ H0.out).mono ?_); rintro en w1 ⟨rfl, rfl⟩)
    | (go_at_call 111; (with_reducible refine (LE.out _ H0.out).mono ?_); rintro en w1 ⟨a1, rfl, hN1, hb1⟩))
  refine bodyPost_ret (by simp [results, Tryd.results39, go_sem]; try rfl) rfl ?_
  exact ⟨a1, rfl, hN1, hb1⟩
theorem natShift_down (ao : Option Addr) (cap m k : Nat) (w : World) (hN : Ns .u32 w ao cap (limbs m)) (hE : limbE (limbs m) = 0) (hl : (limbs m).length ≤ 400) (hk : k ≤ 20000) (hk0 : 0 < k) :
    Calls Tryd.prog 39 #[.slice ao (limbs m).length cap, .int .i64 (-(k : Int))] w fun e w' => ∃ a, e = .returned (.tuple #[.slice a (limbs (m / 2 ^ k)).length (limbs (m / 2 ^ k)).length, .bool (lostB m k), .int .i64 0]) ∧ Ns .u32 w' a (limbs (m / 2 ^ k)).length (limbs (m / 2 ^ k)) ∧ Below w.heap.size w w' := by
  have CK := hid (fun w h => natCheck_any ao cap (limbs m) w h)
  have RI := hid (fun w h => right_any ao cap m k w h (by omega) (by omega))
  have H0 := hid hN
  rw [hE] at CK
  generalize m / 2 ^ k = R at *
  generalize lostB m k = lb at *
  have h1 : ¬ -(k : Int) < -20000 := by omega
  have h2 : ¬ 20000 < -(k : Int) := by omega
  have h3 : ¬ 0 ≤ -(k : Int) := by omega
  clear hN hE hl
  go_enter Tryd.func39, Tryd.ntmps39
  go_wp2_with (first
    | (go_at_call 110; (with_reducible refine (CK.out _ H0.out).mono ?_); rintro en w1 ⟨rfl, rfl⟩)
    | (go_at_call 112; (with_reducible refine (RI.out _ H0.out).mono ?_); rintro en w1 ⟨a1, rfl, hN1, hb1⟩))
  refine bodyPost_ret (by simp [results, Tryd.results39, go_sem]; try rfl) rfl ?_
  exact ⟨a1, rfl, hN1, hb1⟩
theorem natSqrt_zero (ao : Option Addr) (cap : Nat) (w : World) (hN : Ns .u32 w ao cap (limbs 0)) :
    Calls Tryd.prog 113 #[.slice ao (limbs 0).length cap] w (RetNc w 0) := by
  have hl0 : (limbs 0).length = 0 := rfl
  go_enter Tryd.func113, Tryd.ntmps113
  go_wp2_with fail
  go_ret
  exact ⟨none, 0, rfl, Ns.nil, Below.refl _ _⟩
theorem natSqrt_isq (ao : Option Addr) (cap m : Nat) (w : World) (hN : Ns .u32 w ao cap (limbs m)) (hl : (limbs m).length ≤ 400) : Calls Tryd.prog 113 #[.slice ao (limbs m).length cap] w (RetNc w (isq m)) := by
  rcases Nat.eq_zero_or_pos m with h | h
  · subst h
    exact natSqrt_zero ao cap w hN
  · obtain ⟨A, hA⟩ : ∃ A, A = 12900 := ⟨_, rfl⟩
    have hb := bl_len2 m 400 hl
    refine (natSqrt_any ao cap m w hN h A (by omega) (Nat.lt_of_lt_of_le (lt_bl m) (Nat.pow_le_pow_right (by omega) (by omega)))).mono fun e w' ⟨r, h1, h2, h3⟩ => ?_
    obtain ⟨s1, s2⟩ := isq_spec m
    rw [root_uniq _ _ _ s1 s2 h1 h2]
    exact h3
theorem natRoot_ok (ao : Option Addr) (cap m : Nat) (w : World) (hN : Ns .u32 w ao cap (limbs m)) (hE : limbE (limbs m) = 0) (hl : (limbs m).length ≤ 400) :
    Calls Tryd.prog 40 #[.slice ao (limbs m).length cap] w fun e w' => ∃ a c, e = .returned (.tuple #[.slice a (limbs (isq m)).length c, .bool (decide (isq m * isq m ≠ m)), .int .i64 0]) ∧ Ns .u32 w' a c (limbs (isq m)) ∧ Below w.heap.size w w' := by
  have CK := hid (fun w h => natCheck_any ao cap (limbs m) w h)
  have SQ := hid (fun w h => natSqrt_isq ao cap m w h hl)
  have hi : (limbs (isq m)).length ≤ 400 := Nat.le_trans (limbs_len_mono (isq_le m)) hl
  have TI := hid (fun a c w h => times_any a a c c (isq m) (isq m) w h h (by omega) (by omega))
  have CM := hid (fun a0 a1 c0 c1 w h0 h1 => compare_any a0 a1 c0 c1 (isq m * isq m) m w h0 h1)
  have HC := hid (show (cmpI ((isq m * isq m : Nat) : Int) (m : Int) != 0) = decide (isq m * isq m ≠ m) by
    rw [Bool.eq_iff_iff, bne_iff_ne, decide_eq_true_eq, Ne, cmpI_eq_zero]
    omega)
  have H0 := hid hN
  rw [hE] at CK
  generalize decide (isq m * isq m ≠ m) = B at *
  generalize isq m = r at *
  generalize cmpI ((r * r : Nat) : Int) (m : Int) = c9 at *
  generalize r * r = r2 at *
  clear hN hE hl hi
  go_enter Tryd.func40, Tryd.ntmps40
  go_wp2_with (first
    | (go_at_call 110; (with_reducible refine (CK.out _ H0.out).mono ?_); rintro en w1 ⟨rfl, rfl⟩)
    | (go_at_call 113; (with_reducible refine (SQ.out _ H0.out).mono ?_); rintro en w1 ⟨a1, c1, rfl, hN1, hb1⟩)
    | (go_at_call 115; (with_reducible refine (TI.out _ _ _ hN1).mono ?_); rintro en w2 ⟨a2, rfl, hN2, hb2⟩)
    | (go_at_call 114; (with_reducible refine (CM.out _ _ _ _ _ hN2 ((H0.out.below hb1).below hb2)).mono ?_); rintro en w3 ⟨rfl, nq, rfl⟩))
  refine bodyPost_ret (by simp [results, Tryd.results40, go_sem]; try rfl) rfl ?_
  exact ⟨a1, c1, by rw [← HC.out], (hN1.below hb2).below (below_drewN (Below.refl _ _) nq), below_drewN (below_trans hb1 hb2) nq⟩
end Go.Proofs.YtincggkdlegjjaaDoor
