/- Sums and products by the nearest, and what is left of them: the program's, and what is to be told. -/
import Derived.Test.YthaelmnblgollaaGreatDoorPr3
set_option linter.unusedVariables false
set_option linter.unusedSimpArgs false
namespace Go.Ulp
open Go.RowKit
theorem capX_bd (neg : Bool) (mode R : Int) (h : 0 ≤ R) : 0 ≤ capX neg mode R ∧ capX neg mode R < 18446744073709551616 := by
  unfold capX sgb
  split <;> split <;> (try split) <;> omega
theorem numR_nonneg (neg : Bool) (m : Nat) (e mode : Int) : 0 ≤ numR neg m e mode := by
  unfold numR
  split
  · omega
  · have : -1074 ≤ numK m e := by unfold numK; omega
    have h2 : 0 ≤ (numK m e + 1074) * 4503599627370496 := Int.mul_nonneg (by omega) (by omega)
    omega
theorem rX_bd (D : Dy) (mode : Int) : 0 ≤ rX D mode ∧ rX D mode < 18446744073709551616 := capX_bd _ _ _ (numR_nonneg _ _ _ _)
theorem sumX_bd (L : List Nat) (mode : Int) : 0 ≤ sumX L mode ∧ sumX L mode < 18446744073709551616 := by
  unfold sumX
  have := rX_bd (sDy L) mode
  split
  · omega
  split
  · split <;> omega
  split
  · exact this
  split
  · omega
  split
  · omega
  split <;> omega
theorem pX_bd (k : Nat) (s : Bool) (D : Dy) (mode : Int) : 0 ≤ pX k s D mode ∧ pX k s D mode < 18446744073709551616 := by
  unfold pX infX sgb
  have := rX_bd D mode
  split
  · omega
  split
  · split <;> omega
  split
  · split <;> omega
  · exact this
/-- the sum of two, by the nearest -/
def plusN (a b : Nat) : Nat := (sumX [a, b] 0).toNat
def turnN (b : Nat) : Nat := (negOf (b : Int)).toNat
def lessN (a b : Nat) : Nat := plusN a (turnN b)
theorem plusN_eq (a b : Nat) : ((plusN a b : Nat) : Int) = sumX [a, b] 0 := by unfold plusN; have := sumX_bd [a, b] 0; omega
theorem plusN_lt (a b : Nat) : plusN a b < 18446744073709551616 := by unfold plusN; have := sumX_bd [a, b] 0; omega
theorem turnN_eq {b : Nat} (h : b < 18446744073709551616) : ((turnN b : Nat) : Int) = negOf (b : Int) := by unfold turnN; have := negOf_bd (b : Int) (by omega) (by omega); omega
theorem turnN_lt {b : Nat} (h : b < 18446744073709551616) : turnN b < 18446744073709551616 := by unfold turnN; have := negOf_bd (b : Int) (by omega) (by omega); omega
theorem lessN_lt (a b : Nat) : lessN a b < 18446744073709551616 := plusN_lt _ _
/-- what is left of a sum -/
def restN (a b : Nat) : Nat := plusN (lessN a (lessN (plusN a b) b)) (lessN b (lessN (plusN a b) (lessN (plusN a b) b)))
def fastN (a b : Nat) : Nat := lessN b (lessN (plusN a b) a)
theorem restN_lt (a b : Nat) : restN a b < 18446744073709551616 := plusN_lt _ _
theorem fastN_lt (a b : Nat) : fastN a b < 18446744073709551616 := lessN_lt _ _
/-- the product, and what is left of it -/
def prodN (a b : Nat) : Nat := (pX (kindP (a : Int) (b : Int)) (sgx (a : Int) (b : Int)) (mulD (fv (a : Int)) (fv (b : Int))) 0).toNat
theorem prodN_eq (a b : Nat) : ((prodN a b : Nat) : Int) = pX (kindP (a : Int) (b : Int)) (sgx (a : Int) (b : Int)) (mulD (fv (a : Int)) (fv (b : Int))) 0 := by
  unfold prodN; have := pX_bd (kindP (a : Int) (b : Int)) (sgx (a : Int) (b : Int)) (mulD (fv (a : Int)) (fv (b : Int))) 0; omega
theorem prodN_lt (a b : Nat) : prodN a b < 18446744073709551616 := by
  unfold prodN; have := pX_bd (kindP (a : Int) (b : Int)) (sgx (a : Int) (b : Int)) (mulD (fv (a : Int)) (fv (b : Int))) 0; omega
def leftX (a b z : Nat) : Int := fX (kindP (a : Int) (b : Int)) (sgx (a : Int) (b : Int)) (isNan (z : Int)) (isInf (z : Int)) (mulD (fv (a : Int)) (fv (b : Int))) z 0
/-- both have values; the first answer has one -/
def pk (v h : Bool) (x : Int) : Int := if v then (if h then x else 0) else 0
def pkE (v h : Bool) : Int := if v then (if h then 0 else 2) else 4
theorem pk_f (h : Bool) (x : Int) : pk false h x = 0 := rfl
theorem pk_tf (x : Int) : pk true false x = 0 := rfl
theorem pk_tt (x : Int) : pk true true x = x := rfl
theorem pkE_f (h : Bool) : pkE false h = 4 := rfl
theorem pkE_tf : pkE true false = 2 := rfl
theorem pkE_tt : pkE true true = 0 := rfl
theorem known0 : knownB 0 = true := by decide
end Go.Ulp
namespace Go.Proofs.YthaelmnblgollaaGreatDoor
open Go.RowKit Go.Ulp
set_option linter.unusedVariables false
set_option linter.unusedSimpArgs false
set_option maxHeartbeats 2000000
set_option maxRecDepth 100000
theorem xPlus_any (a b : Nat) (ha : a < 18446744073709551616) (hb : b < 18446744073709551616) (w : World) (hT : Tab 0 w) :
    Calls Tryz.prog 163 #[.int .u64 (a : Int), .int .u64 (b : Int)] w fun e w' => e = .returned (.int .u64 ((plusN a b : Nat) : Int)) ∧ Below w.heap.size w w' := by
  have AD := hid (sumAdd_any a b ha hb 0 w hT)
  obtain ⟨e1, e2, e3⟩ := md_yes known0 (sumX [a, b] 0) (sumC [a, b] 0)
  rw [e1, e2, e3, ← plusN_eq] at AD
  generalize sumC [a, b] 0 = sc at *
  generalize plusN a b = s at *
  clear e1 e2 e3 ha hb hT
  go_enter Tryz.func163, Tryz.ntmps163
  go_wp2_with (go_at_call 86; (with_reducible refine AD.out.mono ?_); rintro en w1 ⟨rfl, hb1⟩)
  go_ret
  exact ⟨rfl, hb1⟩
theorem xMinus_any (a b : Nat) (ha : a < 18446744073709551616) (hb : b < 18446744073709551616) (w : World) (hT : Tab 0 w) :
    Calls Tryz.prog 164 #[.int .u64 (a : Int), .int .u64 (b : Int)] w fun e w' => e = .returned (.int .u64 ((lessN a b : Nat) : Int)) ∧ Below w.heap.size w w' := by
  have NG := hid (show ∀ w, Calls Tryz.prog 88 #[.int .u64 (b : Int)] w fun e w' => e = .returned (.int .u64 ((turnN b : Nat) : Int)) ∧ w = w' from fun w => by rw [turnN_eq hb]; exact neg_any (b : Int) (by omega) (by omega) w)
  have PL := hid (show Calls Tryz.prog 163 #[.int .u64 (a : Int), .int .u64 ((turnN b : Nat) : Int)] w fun e w' => e = .returned (.int .u64 ((lessN a b : Nat) : Int)) ∧ Below w.heap.size w w' from xPlus_any a (turnN b) ha (turnN_lt hb) w hT)
  generalize lessN a b = l at *
  generalize turnN b = t at *
  clear ha hb hT
  go_enter Tryz.func164, Tryz.ntmps164
  go_wp2_with (first
    | (go_at_call 88; (with_reducible refine (NG.out _).mono ?_); rintro en w1 ⟨rfl, rfl⟩)
    | (go_at_call 163; (with_reducible refine PL.out.mono ?_); rintro en w1 ⟨rfl, hb1⟩))
  go_ret
  exact ⟨rfl, hb1⟩
theorem xCheck_any (a b : Nat) (ha : a < 18446744073709551616) (hb : b < 18446744073709551616) (w : World) :
    Calls Tryz.prog 162 #[.int .u64 (a : Int), .int .u64 (b : Int)] w fun e w' => e = .returned (.int .i64 (if (hasVal (a : Int) && hasVal (b : Int)) = true then 0 else 4)) ∧ w = w' := by
  have HA := hid (fun w => hasValue_any (a : Int) (by omega) (by omega) w)
  have HB := hid (fun w => hasValue_any (b : Int) (by omega) (by omega) w)
  generalize hasVal (a : Int) = va at *
  generalize hasVal (b : Int) = vb at *
  cases va
  · go_enter Tryz.func162, Tryz.ntmps162
    go_wp2_with (go_at_call 62; (with_reducible refine (HA.out _).mono ?_); rintro en w1 ⟨rfl, rfl⟩)
    go_ret
    exact ⟨rfl, rfl⟩
  · cases vb
    · go_enter Tryz.func162, Tryz.ntmps162
      go_wp2_with (first
        | (go_at_call 62; (with_reducible refine (HA.out _).mono ?_); rintro en w1 ⟨rfl, rfl⟩)
        | (go_at_call 62; (with_reducible refine (HB.out _).mono ?_); rintro en w1 ⟨rfl, rfl⟩))
      go_ret
      exact ⟨rfl, rfl⟩
    · go_enter Tryz.func162, Tryz.ntmps162
      go_wp2_with (first
        | (go_at_call 62; (with_reducible refine (HA.out _).mono ?_); rintro en w1 ⟨rfl, rfl⟩)
        | (go_at_call 62; (with_reducible refine (HB.out _).mono ?_); rintro en w1 ⟨rfl, rfl⟩))
      go_ret
      exact ⟨rfl, rfl⟩
/-- two numbers and an error -/
def RetP (w : World) (x y er : Int) (e : Ending) (w' : World) : Prop := e = .returned (.tuple #[.int .u64 x, .int .u64 y, .int .i64 er]) ∧ Below w.heap.size w w'
theorem twoSum_any (a b : Nat) (ha : a < 18446744073709551616) (hb : b < 18446744073709551616) (w : World) (hT : Tab 0 w) :
    Calls Tryz.prog 65 #[.int .u64 (a : Int), .int .u64 (b : Int)] w (RetP w (pk (hasVal (a : Int) && hasVal (b : Int)) (hasVal (plusN a b : Int)) (plusN a b : Int)) (pk (hasVal (a : Int) && hasVal (b : Int)) (hasVal (plusN a b : Int)) (restN a b : Int)) (pkE (hasVal (a : Int) && hasVal (b : Int)) (hasVal (plusN a b : Int)))) := by
  have hs := plusN_lt a b
  have CH := hid (fun w => xCheck_any a b ha hb w)
  have PS := hid (fun w t => xPlus_any a b ha hb w t)
  have HS := hid (fun w => hasValue_any (plusN a b : Int) (by omega) (by omega) w)
  have M1 := hid (fun w t => xMinus_any (plusN a b) b hs hb w t)
  have M2 := hid (fun w t => xMinus_any (plusN a b) (lessN (plusN a b) b) hs (lessN_lt _ _) w t)
  have M3 := hid (fun w t => xMinus_any a (lessN (plusN a b) b) ha (lessN_lt _ _) w t)
  have M4 := hid (fun w t => xMinus_any b (lessN (plusN a b) (lessN (plusN a b) b)) hb (lessN_lt _ _) w t)
  have M5 := hid (fun w t => xPlus_any (lessN a (lessN (plusN a b) b)) (lessN b (lessN (plusN a b) (lessN (plusN a b) b))) (lessN_lt _ _) (lessN_lt _ _) w t)
  have HR := hid (show restN a b = plusN (lessN a (lessN (plusN a b) b)) (lessN b (lessN (plusN a b) (lessN (plusN a b) b))) from rfl)
  have HT := hid hT
  generalize plusN (lessN a (lessN (plusN a b) b)) (lessN b (lessN (plusN a b) (lessN (plusN a b) b))) = R5 at *
  generalize lessN b (lessN (plusN a b) (lessN (plusN a b) b)) = R4 at *
  generalize lessN a (lessN (plusN a b) b) = R3 at *
  generalize lessN (plusN a b) (lessN (plusN a b) b) = R2 at *
  generalize lessN (plusN a b) b = R1 at *
  generalize plusN a b = S at *
  rw [HR.out]
  generalize (hasVal (a : Int) && hasVal (b : Int)) = v at *
  generalize hasVal (S : Int) = h at *
  clear hT ha hb hs HR
  cases v
  · rw [if_neg (by simp)] at CH
    rw [pk_f, pk_f, pkE_f]
    go_enter Tryz.func65, Tryz.ntmps65
    go_wp2_with (go_at_call 162; (with_reducible refine (CH.out _).mono ?_); rintro en w1 ⟨rfl, rfl⟩)
    refine bodyPost_ret (by simp [results, Tryz.results65, go_sem]; try rfl) rfl ?_
    exact ⟨rfl, Below.refl _ _⟩
  · rw [if_pos rfl] at CH
    cases h
    · rw [pk_tf, pk_tf, pkE_tf]
      go_enter Tryz.func65, Tryz.ntmps65
      go_wp2_with (first
        | (go_at_call 162; (with_reducible refine (CH.out _).mono ?_); rintro en w1 ⟨rfl, rfl⟩)
        | (go_at_call 163; (with_reducible refine (PS.out _ HT.out).mono ?_); rintro en w1 ⟨rfl, hb1⟩)
        | (go_at_call 62; (with_reducible refine (HS.out _).mono ?_); rintro en w2 ⟨rfl, rfl⟩))
      refine bodyPost_ret (by simp [results, Tryz.results65, go_sem]; try rfl) rfl ?_
      exact ⟨rfl, hb1⟩
    · rw [pk_tt, pk_tt, pkE_tt]
      go_enter Tryz.func65, Tryz.ntmps65
      go_wp2_with (first
        | (go_at_call 162; (with_reducible refine (CH.out _).mono ?_); rintro en w1 ⟨rfl, rfl⟩)
        | (go_at_call 163; (with_reducible refine (PS.out _ HT.out).mono ?_); rintro en w1 ⟨rfl, hb1⟩)
        | (go_at_call 62; (with_reducible refine (HS.out _).mono ?_); rintro en w2 ⟨rfl, rfl⟩)
        | (go_at_call 164; (with_reducible refine (M1.out _ (HT.out.below hb1)).mono ?_); rintro en w3 ⟨rfl, hb3⟩; have yb3 := below_trans hb1 hb3)
        | (go_at_call 164; (with_reducible refine (M2.out _ (HT.out.below yb3)).mono ?_); rintro en w4 ⟨rfl, hb4⟩; have yb4 := below_trans yb3 hb4)
        | (go_at_call 164; (with_reducible refine (M3.out _ (HT.out.below yb4)).mono ?_); rintro en w5 ⟨rfl, hb5⟩; have yb5 := below_trans yb4 hb5)
        | (go_at_call 164; (with_reducible refine (M4.out _ (HT.out.below yb5)).mono ?_); rintro en w6 ⟨rfl, hb6⟩; have yb6 := below_trans yb5 hb6)
        | (go_at_call 163; (with_reducible refine (M5.out _ (HT.out.below yb6)).mono ?_); rintro en w7 ⟨rfl, hb7⟩; have yb7 := below_trans yb6 hb7))
      refine bodyPost_ret (by simp [results, Tryz.results65, go_sem]; try rfl) rfl ?_
      exact ⟨rfl, yb7⟩
theorem mul0_any (a b : Nat) (ha : a < 18446744073709551616) (hb : b < 18446744073709551616) (w : World) (hT : Tab 0 w) :
    Calls Tryz.prog 91 #[.int .u64 (a : Int), .int .u64 (b : Int), .int .i64 0] w (RetX3 w (prodN a b : Int) (pC (kindP (a : Int) (b : Int)) (mulD (fv (a : Int)) (fv (b : Int))) 0) 0) := by
  have h := prodMul_any (a : Int) (b : Int) ⟨by omega, by omega⟩ ⟨by omega, by omega⟩ 0 w hT
  rw [(md_yes known0 (pX (kindP (a : Int) (b : Int)) (sgx (a : Int) (b : Int)) (mulD (fv (a : Int)) (fv (b : Int))) 0) (pC (kindP (a : Int) (b : Int)) (mulD (fv (a : Int)) (fv (b : Int))) 0)).1, (md_yes known0 0 (pC (kindP (a : Int) (b : Int)) (mulD (fv (a : Int)) (fv (b : Int))) 0)).2.1, (md_yes known0 0 false).2.2, ← prodN_eq] at h
  exact h
end Go.Proofs.YthaelmnblgollaaGreatDoor
