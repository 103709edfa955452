/- ExactSays: the law's walk. -/
import Derived.Test.YthaelmnblgollaaGreatDoorEx0
set_option linter.unusedVariables false
set_option linter.unusedSimpArgs false
namespace Go.Proofs.YthaelmnblgollaaGreatDoor
open Go.RowKit Go.Ulp
set_option linter.unusedVariables false
set_option linter.unusedSimpArgs false
set_option maxHeartbeats 2000000
set_option maxRecDepth 100000
theorem nearSum_any (a b : Nat) (ha : a < 18446744073709551616) (hb : b < 18446744073709551616) (w : World) :
    Calls Tryz.prog 171 #[.int .u64 (a : Int), .int .u64 (b : Int)] w fun e w' => e = .returned (.int .u64 ((plusN a b : Nat) : Int)) ∧ Below w.heap.size w w' := by
  have SO := hid (show ∀ g w, Ns .u64 w (some ⟨g, 0, none⟩) 2 [a, b] → Calls Tryz.prog 233 #[.slice (some ⟨g, 0, none⟩) 2 2, .int .i64 0] w (RetX w (plusN a b : Int) (sumC [a, b] 0)) from fun g w h => by
    rw [plusN_eq]; exact sumOf_any (some ⟨g, 0, none⟩) 2 [a, b] 0 w h (two_lt a b ha hb) (by simp) (by omega) (by omega))
  have N2 := hid (fun w t => ns2 w t a b)
  generalize sumC [a, b] 0 = sc at *
  generalize plusN a b = s at *
  clear ha hb
  go_enter Tryz.func171, Tryz.ntmps171
  go_wp2_with (go_at_call 233; (with_reducible refine (SO.out _ _ (N2.out _ _)).mono ?_); rintro en w1 ⟨rfl, hb1⟩)
  go_ret
  exact ⟨rfl, below_trans (below_alloc _ _) hb1⟩
theorem turned_any (b : Nat) (hb : b < 18446744073709551616) (w : World) :
    Calls Tryz.prog 234 #[.int .u64 (b : Int)] w fun e w' => e = .returned (.int .u64 ((turnN b : Nat) : Int)) ∧ w = w' := by
  obtain ⟨nb, hn, hnb, hsg⟩ := neg_nat b hb
  have e : ((turnN b : Nat) : Int) = (nb : Int) := by rw [turnN_eq hb, hn]
  rw [e]
  have b0 : 0 ≤ (b : Int) := by omega
  have b1 : (b : Int) < 18446744073709551616 := by omega
  have MI := hid (fun w => rMinus_any (b : Int) b0 b1 w)
  have SG := hid (show ∀ w, Calls Tryz.prog 42 #[.int .u64 ((b : Int) % 9223372036854775808), .bool (!negB (b : Int))] w fun e w' => e = .returned (.int .u64 (nb : Int)) ∧ w = w' from fun w => by
    rw [← hsg]; exact rSigned_any _ (by omega) (by omega) _ w)
  generalize negB (b : Int) = sb at *
  clear e hn hnb hsg hb
  go_enter Tryz.func234, Tryz.ntmps234
  go_wp2_with (first
    | (go_at_call 96; (with_reducible refine (MI.out _).mono ?_); rintro en w1 ⟨rfl, rfl⟩)
    | (go_at_call 42; (with_reducible refine (SG.out _).mono ?_); rintro en w1 ⟨rfl, rfl⟩))
  go_ret
  exact ⟨rfl, rfl⟩
theorem nearLess_any (a b : Nat) (ha : a < 18446744073709551616) (hb : b < 18446744073709551616) (w : World) :
    Calls Tryz.prog 172 #[.int .u64 (a : Int), .int .u64 (b : Int)] w fun e w' => e = .returned (.int .u64 ((lessN a b : Nat) : Int)) ∧ Below w.heap.size w w' := by
  have TB := hid (fun w => turned_any b hb w)
  have NS := hid (show Calls Tryz.prog 171 #[.int .u64 (a : Int), .int .u64 ((turnN b : Nat) : Int)] w fun e w' => e = .returned (.int .u64 ((lessN a b : Nat) : Int)) ∧ Below w.heap.size w w' from nearSum_any a (turnN b) ha (turnN_lt hb) w)
  generalize lessN a b = l at *
  generalize turnN b = t at *
  clear ha hb
  go_enter Tryz.func172, Tryz.ntmps172
  go_wp2_with (first
    | (go_at_call 234; (with_reducible refine (TB.out _).mono ?_); rintro en w1 ⟨rfl, rfl⟩)
    | (go_at_call 171; (with_reducible refine NS.out.mono ?_); rintro en w1 ⟨rfl, hb1⟩))
  go_ret
  exact ⟨rfl, hb1⟩
/-- three numbers -/
def RetT (w : World) (x y z : Int) (e : Ending) (w' : World) : Prop := e = .returned (.tuple #[.int .u64 x, .int .u64 y, .int .u64 z]) ∧ Below w.heap.size w w'
theorem sumParts_any (a b : Nat) (ha : a < 18446744073709551616) (hb : b < 18446744073709551616) (w : World) :
    Calls Tryz.prog 84 #[.int .u64 (a : Int), .int .u64 (b : Int)] w (RetT w (plusN a b : Int) (restN a b : Int) (fastN a b : Int)) := by
  have hs := plusN_lt a b
  have PS := hid (fun w => nearSum_any a b ha hb w)
  have M1 := hid (fun w => nearLess_any (plusN a b) b hs hb w)
  have M2 := hid (fun w => nearLess_any (plusN a b) (lessN (plusN a b) b) hs (lessN_lt _ _) w)
  have M3 := hid (fun w => nearLess_any a (lessN (plusN a b) b) ha (lessN_lt _ _) w)
  have M4 := hid (fun w => nearLess_any b (lessN (plusN a b) (lessN (plusN a b) b)) hb (lessN_lt _ _) w)
  have M5 := hid (show ∀ w, Calls Tryz.prog 171 #[.int .u64 (lessN a (lessN (plusN a b) b) : Int), .int .u64 (lessN b (lessN (plusN a b) (lessN (plusN a b) b)) : Int)] w fun e w' => e = .returned (.int .u64 ((restN a b : Nat) : Int)) ∧ Below w.heap.size w w' from fun w => nearSum_any (lessN a (lessN (plusN a b) b)) (lessN b (lessN (plusN a b) (lessN (plusN a b) b))) (lessN_lt _ _) (lessN_lt _ _) w)
  have M6 := hid (fun w => nearLess_any (plusN a b) a hs ha w)
  have M7 := hid (show ∀ w, Calls Tryz.prog 172 #[.int .u64 (b : Int), .int .u64 (lessN (plusN a b) a : Int)] w fun e w' => e = .returned (.int .u64 (fastN a b : Int)) ∧ Below w.heap.size w w' from fun w => nearLess_any b (lessN (plusN a b) a) hb (lessN_lt _ _) w)
  generalize restN a b = R5 at *
  generalize fastN a b = R7 at *
  generalize lessN b (lessN (plusN a b) (lessN (plusN a b) b)) = R4 at *
  generalize lessN a (lessN (plusN a b) b) = R3 at *
  generalize lessN (plusN a b) (lessN (plusN a b) b) = R2 at *
  generalize lessN (plusN a b) b = R1 at *
  generalize lessN (plusN a b) a = R6 at *
  generalize plusN a b = S at *
  clear ha hb hs
  go_enter Tryz.func84, Tryz.ntmps84
  go_wp2_with (first
    | (go_at_call 171; (with_reducible refine (PS.out _).mono ?_); rintro en w1 ⟨rfl, hb1⟩)
    | (go_at_call 172; (with_reducible refine (M1.out _).mono ?_); rintro en w3 ⟨rfl, hb3⟩; have yb3 := below_trans hb1 hb3)
    | (go_at_call 172; (with_reducible refine (M2.out _).mono ?_); rintro en w4 ⟨rfl, hb4⟩; have yb4 := below_trans yb3 hb4)
    | (go_at_call 172; (with_reducible refine (M3.out _).mono ?_); rintro en w5 ⟨rfl, hb5⟩; have yb5 := below_trans yb4 hb5)
    | (go_at_call 172; (with_reducible refine (M4.out _).mono ?_); rintro en w6 ⟨rfl, hb6⟩; have yb6 := below_trans yb5 hb6)
    | (go_at_call 171; (with_reducible refine (M5.out _).mono ?_); rintro en w7 ⟨rfl, hb7⟩; have yb7 := below_trans yb6 hb7)
    | (go_at_call 172; (with_reducible refine (M6.out _).mono ?_); rintro en w8 ⟨rfl, hb8⟩; have yb8 := below_trans yb7 hb8)
    | (go_at_call 172; (with_reducible refine (M7.out _).mono ?_); rintro en w9 ⟨rfl, hb9⟩; have yb9 := below_trans yb8 hb9))
  refine bodyPost_ret (by simp [results, Tryz.results84, go_sem]; try rfl) rfl ?_
  exact ⟨rfl, yb9⟩
end Go.Proofs.YthaelmnblgollaaGreatDoor
