/- Sums and products by the nearest, and what is left of them: the program's, and what is to be told. -/
import Derived.Test.YtincggkdlegjjaaDoorPr3
set_option linter.unusedVariables false
set_option linter.unusedSimpArgs false
namespace Go.Ulp
open Go.RowKit
theorem capX_bd (neg : Bool) (mode R : Int) (h : 0 ≤ R) : 0 ≤ capX neg mode R ∧ capX neg mode R < 18446744073709551616 := by
  unfold capX sgb
  split <;> split <;> (try split) <;> omega
theorem numR_nonneg (neg : Bool) (m : Nat) (e mode : Int) : 0 ≤ numR neg m e mode := by
  unfold numR
  split
  · omega
  · have : -1074 ≤ numK m e := by unfold numK; omega
    have h2 : 0 ≤ (numK m e + 1074) * 4503599627370496 := Int.mul_nonneg (by omega) (by omega)
    omega
theorem rX_bd (D : Dy) (mode : Int) : 0 ≤ rX D mode ∧ rX D mode < 18446744073709551616 := capX_bd _ _ _ (numR_nonneg _ _ _ _)
theorem sumX_bd (L : List Nat) (mode : Int) : 0 ≤ sumX L mode ∧ sumX L mode < 18446744073709551616 := by
  unfold sumX
  have := rX_bd (sDy L) mode
  split
  · omega
  split
  · split <;> omega
  split
  · exact this
  split
  · omega
  split
  · omega
  split <;> omega
theorem pX_bd (k : Nat) (s : Bool) (D : Dy) (mode : Int) : 0 ≤ pX k s D mode ∧ pX k s D mode < 18446744073709551616 := by
  unfold pX infX sgb
  have := rX_bd D mode
  split
  · omega
  split
  · split <;> omega
  split
  · split <;> omega
  · exact this
/-- the sum of two, by the nearest -/
def plusN (a b : Nat) : Nat := (sumX [a, b] 0).toNat
def turnN (b : Nat) : Nat := (negOf (b : Int)).toNat
def lessN (a b : Nat) : Nat := plusN a (turnN b)
theorem plusN_eq (a b : Nat) : ((plusN a b : Nat) : Int) = sumX [a, b] 0 := by unfold plusN; have := sumX_bd [a, b] 0; omega
theorem plusN_lt (a b : Nat) : plusN a b < 18446744073709551616 := by unfold plusN; have := sumX_bd [a, b] 0; omega
theorem turnN_eq {b : Nat} (h : b < 18446744073709551616) : ((turnN b : Nat) : Int) = negOf (b : Int) := by unfold turnN; have := negOf_bd (b : Int) (by omega) (by omega); omega
theorem turnN_lt {b : Nat} (h : b < 18446744073709551616) : turnN b < 18446744073709551616 := by unfold turnN; have := negOf_bd (b : Int) (by omega) (by omega); omega
theorem lessN_lt (a b : Nat) : lessN a b < 18446744073709551616 := plusN_lt _ _
/-- what is left of a sum -/
def restN (a b : Nat) : Nat := plusN (lessN a (lessN (plusN a b) b)) (lessN b (lessN (plusN a b) (lessN (plusN a b) b)))
def fastN (a b : Nat) : Nat := lessN b (lessN (plusN a b) a)
theorem restN_lt (a b : Nat) : restN a b < 18446744073709551616 := plusN_lt _ _
theorem fastN_lt (a b : Nat) : fastN a b < 18446744073709551616 := lessN_lt _ _
/-- the product, and what is left of it -/
def prodN (a b : Nat) : Nat := (pX (kindP (a : Int) (b : Int)) (sgx (a : Int) (b : Int)) (mulD (fv (a : Int)) (fv (b : Int))) 0).toNat
theorem prodN_eq (a b : Nat) : ((prodN a b : Nat) : Int) = pX (kindP (a : Int) (b : Int)) (sgx (a : Int) (b : Int)) (mulD (fv (a : Int)) (fv (b : Int))) 0 := by
  unfold prodN; have := pX_bd (kindP (a : Int) (b : Int)) (sgx (a : Int) (b : Int)) (mulD (fv (a : Int)) (fv (b : Int))) 0; omega
theorem prodN_lt (a b : Nat) : prodN a b < 18446744073709551616 := by
  unfold prodN; have := pX_bd (kindP (a : Int) (b : Int)) (sgx (a : Int) (b : Int)) (mulD (fv (a : Int)) (fv (b : Int))) 0; omega
def leftX (a b z : Nat) : Int := fX (kindP (a : Int) (b : Int)) (sgx (a : Int) (b : Int)) (isNan (z : Int)) (isInf (z : Int)) (mulD (fv (a : Int)) (fv (b : Int))) z 0
/-- both have values; the first answer has one -/
def pk (v h : Bool) (x : Int) : Int := if v then (if h then x else 0) else 0
def pkE (v h : Bool) : Int := if v then (if h then 0 else 2) else 4
theorem pk_f (h : Bool) (x : Int) : pk false h x = 0 := rfl
theorem pk_tf (x : Int) : pk true false x = 0 := rfl
theorem pk_tt (x : Int) : pk true true x = x := rfl
theorem pkE_f (h : Bool) : pkE false h = 4 := rfl
theorem pkE_tf : pkE true false = 2 := rfl
theorem pkE_tt : pkE true true = 0 := rfl
theorem known0 : knownB 0 = true := by decide
end Go.Ulp
namespace Go.Proofs.YtincggkdlegjjaaDoor
open Go.RowKit Go.Ulp
set_option linter.unusedVariables false
set_option linter.unusedSimpArgs false
set_option maxHeartbeats 2000000
set_option maxRecDepth 100000
/-- two numbers and an error -/
def RetP (w : World) (x y er : Int) (e : Ending) (w' : World) : Prop := e = .returned (.tuple #[.int .u64 x, .int .u64 y, .int .i64 er]) ∧ Below w.heap.size w w'
end Go.Proofs.YtincggkdlegjjaaDoor
