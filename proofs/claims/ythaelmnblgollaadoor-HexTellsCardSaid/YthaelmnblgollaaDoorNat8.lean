/- nat: one limb of a quotient. -/
import Derived.Test.YthaelmnblgollaaDoorNat7
import Derived.Deep.DeepCutAuto
import Derived.Deep.CutBlock
namespace Go.Ulp
open Go.RowKit
/-- the number of two lists whose last two (three) limbs are told -/
theorem kn_le {q v u vl ul P v1 v2 u2 top : Nat} (hv : v = vl + P * (v2 + 4294967296 * v1)) (hu : u = ul + P * (u2 + 4294967296 * top)) (hul : ul < P) (h : q * v ≤ u) : q * (v2 + 4294967296 * v1) ≤ u2 + 4294967296 * top := by
  rcases Nat.lt_or_ge (u2 + 4294967296 * top) (q * (v2 + 4294967296 * v1)) with h1 | h1
  · exfalso
    have h2 : P * (u2 + 4294967296 * top + 1) ≤ P * (q * (v2 + 4294967296 * v1)) := Nat.mul_le_mul_left _ h1
    have h3 : q * v = q * vl + P * (q * (v2 + 4294967296 * v1)) := by rw [hv, Nat.mul_add, ← Nat.mul_assoc q, Nat.mul_comm q P, Nat.mul_assoc]
    rw [Nat.mul_add P, Nat.mul_one] at h2
    omega
  · exact h1
theorem kn_top {q v1 v2 u2 top : Nat} (h : q * (v2 + 4294967296 * v1) ≤ u2 + 4294967296 * top) (hu2 : u2 < 4294967296) : q * v1 ≤ top := by
  rw [Nat.mul_add] at h
  have e : q * (4294967296 * v1) = 4294967296 * (q * v1) := by rw [← Nat.mul_assoc, Nat.mul_comm q, Nat.mul_assoc]
  rw [e] at h; omega
theorem kn_lt {g v u vl ul P v1 v2 u2 top : Nat} (hv : v = vl + P * (v2 + 4294967296 * v1)) (hu : u = ul + P * (u2 + 4294967296 * top)) (hvl : vl < P) (hg : g < 4294967296) (hv1 : 0 < v1) (h : g * (v2 + 4294967296 * v1) ≤ u2 + 4294967296 * top) : g * v < u + v := by
  have h3 : g * v = g * vl + P * (g * (v2 + 4294967296 * v1)) := by rw [hv, Nat.mul_add, ← Nat.mul_assoc g, Nat.mul_comm g P, Nat.mul_assoc]
  have h4 := Nat.mul_le_mul_left P h
  have h5 : P * (4294967296 * 1) ≤ P * (v2 + 4294967296 * v1) := Nat.mul_le_mul_left _ (by omega)
  have h6 : g * vl ≤ 4294967295 * vl := Nat.mul_le_mul_right _ (by omega)
  omega
theorem kn_dec {q g v1 v2 u2 top rest : Nat} (h : q * (v2 + 4294967296 * v1) ≤ u2 + 4294967296 * top) (ht : g * v1 + rest = top) (hc : rest * 4294967296 + u2 < g * v2) : q < g := by
  rcases Nat.lt_or_ge q g with h1 | h1
  · exact h1
  · exfalso
    have h2 : g * (v2 + 4294967296 * v1) ≤ q * (v2 + 4294967296 * v1) := Nat.mul_le_mul_right _ h1
    have h3 : g * (v2 + 4294967296 * v1) = g * v2 + 4294967296 * (g * v1) := by rw [Nat.mul_add, ← Nat.mul_assoc, Nat.mul_comm g 4294967296, Nat.mul_assoc]
    omega
theorem kn_end {g v1 v2 u2 top rest : Nat} (ht : g * v1 + rest = top) (hg : g < 4294967296) (hv2 : v2 < 4294967296) (hc : 4294967296 ≤ rest ∨ g * v2 ≤ rest * 4294967296 + u2) : g * (v2 + 4294967296 * v1) ≤ u2 + 4294967296 * top := by
  have h3 : g * (v2 + 4294967296 * v1) = g * v2 + 4294967296 * (g * v1) := by rw [Nat.mul_add, ← Nat.mul_assoc, Nat.mul_comm g 4294967296, Nat.mul_assoc]
  rcases hc with hc | hc
  · have : g * v2 ≤ 4294967295 * 4294967295 := Nat.mul_le_mul (by omega) (by omega)
    omega
  · omega
/-- one limb of what is taken away -/
theorem msub_step {Uk Tk gV c b k u v g d c' b' lo : Nat} (h : Uk + 4294967296 ^ k * (c + b) = Tk + gV) (hd : d + lo + b = u + 4294967296 * b') (hc : lo + 4294967296 * c' = c + g * v) :
    (Uk + 4294967296 ^ k * u) + 4294967296 ^ (k + 1) * (c' + b') = (Tk + 4294967296 ^ k * d) + (gV + 4294967296 ^ k * (g * v)) := by
  have e1 := congrArg (fun z => 4294967296 ^ k * z) hd
  have e2 := congrArg (fun z => 4294967296 ^ k * z) hc
  simp only [Nat.mul_add] at e1 e2 h ⊢
  rw [Nat.pow_succ, Nat.mul_assoc, Nat.mul_assoc]
  omega
theorem madd_step {X Y V s k x v t s' : Nat} (h : Y + 4294967296 ^ k * s = X + V) (hd : t + 4294967296 * s' = s + x + v) :
    (Y + 4294967296 ^ k * t) + 4294967296 ^ (k + 1) * s' = (X + 4294967296 ^ k * x) + (V + 4294967296 ^ k * v) := by
  have e1 := congrArg (fun z => 4294967296 ^ k * z) hd
  simp only [Nat.mul_add] at e1 h ⊢
  rw [Nat.pow_succ, Nat.mul_assoc]
  omega
theorem kn_q {g q u v : Nat} (hq : q = u / v) (hv : 0 < v) (h1 : q ≤ g) (h2 : g * v < u + v) : g = q ∨ g = q + 1 := by
  rcases Nat.lt_or_ge (q + 1) g with h | h
  · exfalso
    have h3 : (q + 2) * v ≤ g * v := Nat.mul_le_mul_right _ (by omega)
    have h4 := Nat.div_add_mod u v
    have h5 := Nat.mod_lt u hv
    rw [← hq] at h4
    have : (q + 2) * v = v * q + 2 * v := by rw [Nat.add_mul, Nat.mul_comm q]
    omega
  · omega
/-- nothing was borrowed: it was just so often -/
theorem kn_no {g q u v T : Nat} (hq : q = u / v) (hv : 0 < v) (h1 : g = q ∨ g = q + 1) (h : u = T + g * v) : g = q ∧ T = u % v := by
  have h4 := Nat.div_add_mod u v
  have h5 := Nat.mod_lt u hv
  rw [← hq] at h4
  rcases h1 with rfl | rfl
  · exact ⟨rfl, by rw [Nat.mul_comm v] at h4; omega⟩
  · exfalso; rw [Nat.add_mul, Nat.mul_comm q] at h; omega
theorem kn_yes {g q u v T W : Nat} (hq : q = u / v) (hv : 0 < v) (h1 : g = q ∨ g = q + 1) (h : u + W = T + g * v) (hT : T < W) : g = q + 1 ∧ T + v = u % v + W := by
  have h4 := Nat.div_add_mod u v
  have h5 := Nat.mod_lt u hv
  rw [← hq] at h4
  rcases h1 with rfl | rfl
  · exfalso; rw [Nat.mul_comm v] at h4; omega
  · refine ⟨rfl, ?_⟩; rw [Nat.add_mul, Nat.mul_comm q] at h; omega
theorem lval_append (L M : List Nat) : lval (L ++ M) = lval L + 4294967296 ^ L.length * lval M := val_append _ L M
theorem lval_snoc (L : List Nat) (d : Nat) : lval (L ++ [d]) = lval L + 4294967296 ^ L.length * d := val_snoc _ L d
theorem lval_take_succ (L : List Nat) (k : Nat) (h : k < L.length) : lval (L.take (k + 1)) = lval (L.take k) + 4294967296 ^ k * L.getD k 0 := val_take_succ _ L k h
/-- the last two limbs, the last three -/
theorem lval_top2 (V : List Nat) (n : Nat) (hn : V.length = n + 2) : lval V = lval (V.take n) + 4294967296 ^ n * (V.getD n 0 + 4294967296 * V.getD (n + 1) 0) := by
  conv => lhs; rw [← List.take_of_length_le (show V.length ≤ n + 1 + 1 by omega)]
  rw [lval_take_succ V (n + 1) (by omega), lval_take_succ V n (by omega), Nat.mul_add, Nat.pow_succ, Nat.mul_assoc]; omega
theorem lval_top3 (V : List Nat) (n : Nat) (hn : V.length = n + 3) : lval V = lval (V.take n) + 4294967296 ^ n * (V.getD n 0 + 4294967296 * (V.getD (n + 1) 0 + 4294967296 * V.getD (n + 2) 0)) := by
  conv => lhs; rw [← List.take_of_length_le (show V.length ≤ n + 1 + 1 + 1 by omega)]
  rw [lval_take_succ V (n + 1 + 1) (by omega), lval_take_succ V (n + 1) (by omega), lval_take_succ V n (by omega)]
  have e : V.getD (n + 1 + 1) 0 = V.getD (n + 2) 0 := rfl
  rw [e]
  simp only [Nat.mul_add, Nat.pow_succ, Nat.mul_assoc]; omega
theorem lval_take_lt (V : List Nat) (n : Nat) (h : Lim V) (hn : n ≤ V.length) : lval (V.take n) < 4294967296 ^ n := by
  have := lval_lt _ (AllLt.take h n); rwa [List.length_take, Nat.min_eq_left hn] at this
/-- what 'digit' leaves -/

def Onl (base g : Nat) (w w' : World) : Prop := Below base w w' ∧ ∀ b, b ≠ g → w'.heap[b]? = w.heap[b]?
theorem Onl.refl (base g : Nat) (w : World) : Onl base g w w := ⟨Below.refl _ _, fun _ _ => rfl⟩
theorem Onl.drewN {base g : Nat} {a w : World} (h : Onl base g a w) (n : Nat) : Onl base g a (w.drewN n) := ⟨below_drewN h.1 n, h.2⟩
theorem Onl.trans {base g : Nat} {a b c : World} (h : Onl base g a b) (k : Onl base g b c) : Onl base g a c := ⟨h.1.trans k.1, fun i hi => (k.2 i hi).trans (h.2 i hi)⟩
theorem Onl.set {base : Nat} {e : TypeId} {k : IntKind} {w : World} {g n cap : Nat} {L : List Nat} (h : Own base e k w (.slice (some ⟨g, 0, none⟩) n cap) L) (i : Nat) (u : Value) : Onl base g w (w.setCell ⟨g, i, none⟩ u) :=
  ⟨h.set_below i u, fun b hb => Below.heap_setCell w _ u b hb⟩
def RetDigit (base : Nat) (t : TypeId) (g N cap bv ov cv n : Nat) (A U C V : List Nat) (w : World) (e : Ending) (w' : World) : Prop :=
  ∃ T : List Nat, e = .returned (.int .u32 ((lval U / lval V : Nat) : Int)) ∧ T.length = n + 3 ∧ Lim T ∧ lval T = lval U % lval V ∧ Own base t .u32 w' (.slice (some ⟨g, 0, none⟩) N cap) (A ++ T ++ C) ∧ Ns .u32 w' (some ⟨bv, ov, none⟩) cv V ∧ Onl base g w w'
theorem Own.cast {base : Nat} {e : TypeId} {k j : IntKind} {w : World} {a : Addr} {v : Value} {L : List Nat} {x y : Int} (h : Own base e k (w.setCell a (.int j y)) v L) (hxy : x = y) : Own base e k (w.setCell a (.int j x)) v L := by rw [hxy]; exact h
theorem set_mid (A X : List Nat) (d e : Nat) (R : List Nat) : (A ++ X ++ (e :: R)).set (A.length + X.length) d = A ++ (X ++ [d]) ++ R := by
  rw [List.set_append_right _ _ (by simp)]
  simp
theorem getD_mid (A X : List Nat) (e : Nat) (R : List Nat) : (A ++ X ++ (e :: R)).getD (A.length + X.length) 0 = e := by
  simp [List.getD]
end Go.Ulp
namespace Go.Proofs.YthaelmnblgollaaDoor
open Go.RowKit Go.Ulp
set_option linter.unusedVariables false
set_option linter.unusedSimpArgs false
set_option maxHeartbeats 1600000
set_option maxRecDepth 100000

end Go.Proofs.YthaelmnblgollaaDoor
