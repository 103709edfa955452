/- nat: differences, products. -/
import Derived.Test.YtincggkdlegjjaaRows
import Derived.Test.YtincggkdlegjjaaMem
namespace Go.Proofs.Ytincggkdlegjjaa
open Go.RowKit Go.Ulp
set_option linter.unusedVariables false
set_option linter.unusedSimpArgs false
set_option maxHeartbeats 400000

theorem cmpInt_any (a b : Int) (w : World) :
    Calls Try.prog 16 #[.int .i64 a, .int .i64 b] w fun e w' => e = .returned (.int .i64 (cmpI a b)) ∧ w = w' := by
  have hc := hid (show cmpI a b = if a < b then -1 else if b < a then 1 else 0 from rfl)
  by_cases h1 : a < b
  · go_enter Try.func16, Try.ntmps16
    go_wp2
    go_ret
    exact ⟨ret_int (by rw [hc.out, if_pos h1]), rfl⟩
  · by_cases h2 : b < a
    all_goals
      go_enter Try.func16, Try.ntmps16
      go_wp2
      go_ret
      exact ⟨ret_int (by rw [hc.out, if_neg (by omega)]; first | rw [if_pos (by omega)] | rw [if_neg (by omega)]), rfl⟩
end Go.Proofs.Ytincggkdlegjjaa
namespace Go.Ulp
theorem plus_step {m n c x y : Nat} (h : m + 4294967296 ^ n * c = x + y) (u v : Nat) :
    m + 4294967296 ^ n * ((c + u + v) % 4294967296) + 4294967296 ^ (n + 1) * ((c + u + v) / 4294967296) = (x + 4294967296 ^ n * u) + (y + 4294967296 ^ n * v) := by
  rw [Nat.pow_succ, Nat.mul_assoc, Nat.add_assoc, ← Nat.mul_add, Nat.mod_add_div, Nat.mul_add, Nat.mul_add]; omega
end Go.Ulp
namespace Go.Proofs.Ytincggkdlegjjaa
open Go.RowKit Go.Ulp
set_option linter.unusedVariables false
set_option linter.unusedSimpArgs false
set_option maxHeartbeats 400000
set_option maxRecDepth 100000

end Go.Proofs.Ytincggkdlegjjaa
namespace Go.Ulp
theorem minus_step0 {m n q b k : Nat} (h : m + 4294967296 ^ k * b = q + n) (x y : Nat) (hxy : b + y ≤ x) :
    (m + 4294967296 ^ k * x) + 4294967296 ^ (k + 1) * 0 = (q + 4294967296 ^ k * (x - b - y)) + (n + 4294967296 ^ k * y) := by
  obtain ⟨z, rfl⟩ : ∃ z, x = z + b + y := ⟨x - b - y, by omega⟩
  rw [show z + b + y - b - y = z by omega, Nat.mul_add, Nat.mul_add]; omega
theorem minus_step1 {m n q b k : Nat} (h : m + 4294967296 ^ k * b = q + n) (x y : Nat) (hx : x < 4294967296) (hy : y < 4294967296) (hb : b ≤ 1) (hxy : x < b + y) :
    (m + 4294967296 ^ k * x) + 4294967296 ^ (k + 1) * 1 = (q + 4294967296 ^ k * (x + 4294967296 - b - y)) + (n + 4294967296 ^ k * y) := by
  obtain ⟨z, hz⟩ : ∃ z, x + 4294967296 = z + b + y := ⟨x + 4294967296 - b - y, by omega⟩
  have e := congrArg (fun t => 4294967296 ^ k * t) hz
  simp only [Nat.mul_add] at e
  rw [show x + 4294967296 - b - y = z by omega, Nat.pow_succ, Nat.mul_one]; omega
theorem minus_end {m n q b k : Nat} (h : m + 4294967296 ^ k * b = q + n) (hb : b ≤ 1) (hq : q < 4294967296 ^ k) (hn : n ≤ m) : q = m - n := by
  have : b = 0 ∨ b = 1 := by omega
  rcases this with rfl | rfl
  · omega
  · rw [Nat.mul_one] at h; omega
end Go.Ulp
namespace Go.Proofs.Ytincggkdlegjjaa
open Go.RowKit Go.Ulp
set_option linter.unusedVariables false
set_option linter.unusedSimpArgs false
set_option maxHeartbeats 400000
set_option maxRecDepth 100000

end Go.Proofs.Ytincggkdlegjjaa
