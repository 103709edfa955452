/- RemainderOf. -/
import Derived.Test.YtincggkdlegjjaaDoorQr1
set_option linter.unusedVariables false
set_option linter.unusedSimpArgs false
namespace Go.Ulp
open Go.RowKit
theorem lev_nrm (X : Int) (ta K : Nat) (h : ta ≤ K) : nrm (X * pw (K - ta)) (-(K : Int)) = nrm X (-(ta : Int)) := by
  rw [nrm_scale]; congr 1; omega
theorem rem_zero (b : Int) (h : b ≠ 0) : remI 0 b = 0 := by
  unfold remI
  rw [Int.zero_emod]
  rw [if_neg (by omega)]
end Go.Ulp
namespace Go.Proofs.YtincggkdlegjjaaDoor
open Go.RowKit Go.Ulp
set_option linter.unusedVariables false
set_option linter.unusedSimpArgs false
set_option maxHeartbeats 4000000
set_option maxRecDepth 100000
end Go.Proofs.YtincggkdlegjjaaDoor
