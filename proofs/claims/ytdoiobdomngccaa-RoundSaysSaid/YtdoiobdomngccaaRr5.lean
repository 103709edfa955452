/- Rounding: the reference's answer is the program's. -/
import Derived.Test.YtdoiobdomngccaaRr4
import Derived.Test.YtdoiobdomngccaaRn5
set_option linter.unusedVariables false
set_option linter.unusedSimpArgs false
namespace Go.Ulp
open Go.RowKit
theorem cR_eq (x e r : Int) (s : Nat) (hs : 0 ≤ e + 1074 + s) : cmpD (rkD r) (nrm x e) = cR s (x * pw (e + 1074 + s).toNat) r := by
  unfold rkD cR rT
  rw [← cmp_nrm (rvs r) (-1074) x e (-1074 - s) (.inl (by omega)) (.inl (by omega))]
  unfold sc
  rw [show (-1074 - (-1074 - (s : Int))).toNat = s by omega, show (e - (-1074 - (s : Int))).toNat = (e + 1074 + s).toNat by omega]
theorem cM_eq (x e r : Int) (s : Nat) (hs : 0 ≤ e + 1074 + s) : cmpD (shD (nrm x e) 1) (addD (rkD r) (rkD (r + 1))) = cM s (x * pw (e + 1074 + s).toNat) r := by
  unfold rkD cM rT
  rw [← nrm_shift, ← nrm_add (rvs r) (-1074) (rvs (r + 1)) (-1074) (-1074) (.inl (Int.le_refl _)) (.inl (Int.le_refl _)), sc_self, sc_self,
    ← cmp_nrm x (e + 1) (rvs r + rvs (r + 1)) (-1074) (-1074 - s) (.inl (by omega)) (.inl (by omega))]
  unfold sc
  rw [show (-1074 - (-1074 - (s : Int))).toNat = s by omega, show (e + 1 - (-1074 - (s : Int))).toNat = 1 + (e + 1074 + s).toNat by omega, pw_add, Int.add_mul]
  congr 1
  rw [show pw 1 = 2 by decide, ← Int.mul_assoc, Int.mul_comm x 2, Int.mul_assoc]
theorem cz_eq (x e : Int) (E : Nat) : cmpD (nrm x e) (0, 0) = cmpI (x * pw E) 0 := by
  rw [cmpD_zero, sgn_nrm]
  exact (sgn_pw x E).symm
/-- the reference's answer -/
theorem rounded_num (neg : Bool) (M : Nat) (e side mode l : Int) (m0 : 0 ≤ mode) (m1 : mode ≤ 4) (hz : M = 0 → neg = false) (hside : side = -1 ∨ side = 0 ∨ side = 1)
    (hl : IsLow (fun r => cmpD (rkD r) (nrm (sg neg M) e)) l) :
    moreAns (fun r => cmpD (rkD r) (nrm (sg neg M) e)) (fun r => cmpD (shD (nrm (sg neg M) e) 1) (addD (rkD r) (rkD (r + 1)))) (cmpD (nrm (sg neg M) e) (0, 0)) side mode l
      = (numX (besNeg neg M side) (besM neg M side) (besE M e side) mode, numC (besNeg neg M side) (besM neg M side) (besE M e side) mode) := by
  obtain ⟨s, hs1, hs2⟩ : ∃ s : Nat, 64 ≤ e + 1074 + s ∧ 930 ≤ s := ⟨(-e).toNat + 2000, by omega, by omega⟩
  have e0 : sg neg (M : Int) * pw (e + 1074 + s).toNat = sg neg ((M * 2 ^ (e + 1074 + s).toNat : Nat) : Int) := by
    rw [pw_nat, Int.natCast_mul]; unfold sg; cases neg <;> simp [Int.neg_mul]
  have e1 : (fun r => cmpD (rkD r) (nrm (sg neg M) e)) = cR s (sg neg ((M * 2 ^ (e + 1074 + s).toNat : Nat) : Int)) := funext fun r => by
    rw [cR_eq _ _ _ s (by omega), e0]
  have e2 : (fun r => cmpD (shD (nrm (sg neg M) e) 1) (addD (rkD r) (rkD (r + 1)))) = cM s (sg neg ((M * 2 ^ (e + 1074 + s).toNat : Nat) : Int)) := funext fun r => by
    rw [cM_eq _ _ _ s (by omega), e0]
  have e3 : cmpD (nrm (sg neg M) e) (0, 0) = cmpI (sg neg ((M * 2 ^ (e + 1074 + s).toNat : Nat) : Int)) 0 := by
    rw [cz_eq _ _ (e + 1074 + s).toNat, e0]
  rw [e1] at hl
  rw [e1, e2, e3]
  exact beside_all neg M e side mode l s m0 m1 hz hs1 hs2 hside hl
end Go.Ulp
namespace Go.Proofs.Ytdoiobdomngccaa
open Go.RowKit Go.Ulp
set_option linter.unusedVariables false
set_option linter.unusedSimpArgs false
set_option maxHeartbeats 1000000
set_option maxRecDepth 100000
theorem roundedN_any (v : Value) (neg : Bool) (M : Nat) (x : Int) (A T : Nat) (side mode : Int) (w : World) (hq : QD 3 w (nrm (sg neg M) x) A T v) (hA : A ≤ 10000000) (hT : T ≤ 200000) (hside : side = -1 ∨ side = 0 ∨ side = 1) (m0 : 0 ≤ mode) (m1 : mode ≤ 4) (hz : M = 0 → neg = false) :
    Calls Try.prog 58 #[v, .int .i64 side, .int .i64 mode] w (RetX w (numX (besNeg neg M side) (besM neg M side) (besE M x side) mode) (numC (besNeg neg M side) (besM neg M side) (besE M x side) mode)) :=
  (rounded_any v _ A T side mode w hq hA hT hside).mono fun e w' ⟨l, hl, he, hb⟩ => by
    rw [rounded_num neg M x side mode l m0 m1 hz hside hl] at he
    exact ⟨he, hb⟩
/-- a number's rounding -/
theorem roundedP_any (v : Value) (neg : Bool) (M : Nat) (x : Int) (A T : Nat) (mode : Int) (w : World) (hq : QD 3 w (nrm (sg neg M) x) A T v) (hA : A ≤ 10000000) (hT : T ≤ 200000) (m0 : 0 ≤ mode) (m1 : mode ≤ 4) (hz : M = 0 → neg = false) :
    Calls Try.prog 58 #[v, .int .i64 0, .int .i64 mode] w (RetX w (numX neg M x mode) (numC neg M x mode)) := by
  have := roundedN_any v neg M x A T 0 mode w hq hA hT (.inr (.inl rfl)) m0 m1 hz
  have e1 : besNeg neg M 0 = neg := rfl
  have e2 : besM neg M 0 = M := rfl
  have e3 : besE M x 0 = x := rfl
  rw [e1, e2, e3] at this
  exact this
end Go.Proofs.Ytdoiobdomngccaa
