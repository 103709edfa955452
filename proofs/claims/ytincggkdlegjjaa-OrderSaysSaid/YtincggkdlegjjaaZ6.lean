/- The reference's whole numbers: products. -/
import Derived.Test.YtincggkdlegjjaaStep
namespace Go.Ulp
open Go.RowKit
theorem Own.drew1 {base : Nat} {e : TypeId} {k : IntKind} {w : World} {v : Value} {L : List Nat} (h : Own base e k w v L) : Own base e k w.drew v L := h
theorem Own.mono {base base' : Nat} {e : TypeId} {k : IntKind} {w : World} {v : Value} {L : List Nat} (h : Own base e k w v L) (hb : base' ≤ base) : Own base' e k w v L := by
  obtain ⟨h1, h2⟩ := h
  refine ⟨h1, ?_⟩
  rcases h2 with hn | ⟨g, cap, cur, hv, hg, rest⟩
  · exact .inl hn
  · exact .inr ⟨g, cap, cur, hv, Nat.le_trans hb hg, rest⟩
theorem Own.made' (w : World) (e : TypeId) (l c g base : Nat) (hg : g = w.heap.size) (hb : base ≤ w.heap.size) (h : l ≤ c) (hc : c ≤ maxLen) : Own base e .i64 (w.alloc (.cells (madeCells #[Value.int .i64 0] c) e)) (.slice (some ⟨g, 0, none⟩) l c) (List.replicate l 0) := by
  subst hg
  exact (own_made w .i64 e l c h hc).mono hb
theorem mul_small {z x y : Nat} (h : z = x * y) (hx : x < 10000) (hy : y < 10000) : z ≤ 99980001 := by
  have := Nat.mul_le_mul (show x ≤ 9999 by omega) (show y ≤ 9999 by omega)
  omega
theorem bound_succ {a k : Nat} (h : a ≤ k * 99980001) : a ≤ (k + 1) * 99980001 := Nat.le_trans h (Nat.mul_le_mul_right _ (Nat.le_succ k))
theorem dval_set (L : List Nat) (i d : Nat) (h : i < L.length) : dval (L.set i d) + 10000 ^ i * L.getD i 0 = dval L + 10000 ^ i * d := val_set _ L i d h
theorem mul_inner {v' v v0 k l t x s z y : Nat} (h : v = v0 + 10000 ^ k * (x * s)) (hs : v' + 10000 ^ (k + l) * t = v + 10000 ^ (k + l) * (t + z)) (hz : z = x * y) : v' = v0 + 10000 ^ k * (x * (s + 10000 ^ l * y)) := by
  have e4 : 10000 ^ k * (x * (s + 10000 ^ l * y)) = 10000 ^ k * (x * s) + 10000 ^ (k + l) * (x * y) := by
    rw [Nat.mul_add, Nat.mul_add, Nat.pow_add, Nat.mul_assoc, ← Nat.mul_assoc x, Nat.mul_comm x (10000 ^ l), Nat.mul_assoc (10000 ^ l)]
  rw [e4, ← hz]; rw [Nat.mul_add] at hs; omega
theorem mul_norm {v1 v2 v k a b q r : Nat} (h1 : v1 + 10000 ^ (k + 1) * b = v + 10000 ^ (k + 1) * (b + q)) (h2 : v2 + 10000 ^ k * a = v1 + 10000 ^ k * r) (ha : a = r + 10000 * q) : v2 = v := by
  have e := congrArg (fun z => 10000 ^ k * z) ha
  simp only [Nat.mul_add] at e
  rw [Nat.mul_add, Nat.pow_succ, Nat.mul_assoc, Nat.mul_assoc] at h1
  omega
theorem zof_mul (x y : Int) : zof (!zneg x == zneg y) (x.natAbs * y.natAbs) = x * y := by
  have e : ((x.natAbs * y.natAbs : Nat) : Int) = (x.natAbs : Int) * (y.natAbs : Int) := Int.natCast_mul _ _
  unfold zof
  rw [e]
  by_cases hx : x < 0 <;> by_cases hy : y < 0
  · have zx : zneg x = true := by simpa [zneg] using hx
    have zy : zneg y = true := by simpa [zneg] using hy
    rw [zx, zy, show (x.natAbs : Int) = -x by omega, show (y.natAbs : Int) = -y by omega]; exact Int.neg_mul_neg x y
  · have zx : zneg x = true := by simpa [zneg] using hx
    have zy : zneg y = false := by simpa [zneg] using hy
    rw [zx, zy, show (x.natAbs : Int) = -x by omega, show (y.natAbs : Int) = y by omega]; show -(-x * y) = x * y; rw [Int.neg_mul, Int.neg_neg]
  · have zx : zneg x = false := by simpa [zneg] using hx
    have zy : zneg y = true := by simpa [zneg] using hy
    rw [zx, zy, show (x.natAbs : Int) = x by omega, show (y.natAbs : Int) = -y by omega]; show -(x * -y) = x * y; rw [Int.mul_neg, Int.neg_neg]
  · have zx : zneg x = false := by simpa [zneg] using hx
    have zy : zneg y = false := by simpa [zneg] using hy
    rw [zx, zy, show (x.natAbs : Int) = x by omega, show (y.natAbs : Int) = y by omega]; rfl
theorem all_of_getD (L : List Nat) (n B : Nat) (hn : L.length ≤ n) (h : ∀ j, j < n → L.getD j 0 < B) : AllLt B L := by
  intro d hd
  obtain ⟨i, hi, rfl⟩ := List.getElem_of_mem hd
  have := h i (by omega)
  rwa [getD_in _ _ hi] at this
theorem top_small (L : List Nat) (k v : Nat) (hk : k < L.length) (hv : dval L = v) (hlt : v < 10000 ^ k) : L.getD k 0 = 0 := by
  rcases Nat.eq_zero_or_pos (L.getD k 0) with h | h
  · exact h
  · exfalso
    have e := val_take_drop 10000 L k (by omega)
    rw [val_drop 10000 L k hk, Nat.mul_add] at e
    have : 10000 ^ k * 1 ≤ 10000 ^ k * L.getD k 0 := Nat.mul_le_mul_left _ h
    unfold dval at hv; omega
end Go.Ulp
namespace Go.Proofs.Ytincggkdlegjjaa
open Go.RowKit Go.Ulp
set_option linter.unusedVariables false
set_option linter.unusedSimpArgs false
set_option maxHeartbeats 1000000
set_option maxRecDepth 100000
end Go.Proofs.Ytincggkdlegjjaa
