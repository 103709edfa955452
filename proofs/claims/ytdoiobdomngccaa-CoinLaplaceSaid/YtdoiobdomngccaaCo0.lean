/- Draws from a tape of bits: plain facts, no program in sight. -/
import Derived.Test.YtdoiobdomngccaaNum
set_option linter.unusedVariables false
set_option linter.unusedSimpArgs false
namespace Go.Ulp
/-- the bits of a byte, of bytes, the highest first -/
def bits8 (c : Nat) : List Nat := [c / 128 % 2, c / 64 % 2, c / 32 % 2, c / 16 % 2, c / 8 % 2, c / 4 % 2, c / 2 % 2, c % 2]
def bitsOf : List UInt8 → List Nat
  | [] => []
  | c :: r => bits8 c.toNat ++ bitsOf r
theorem bits8_len (c : Nat) : (bits8 c).length = 8 := rfl
theorem bitsOf_len (s : List UInt8) : (bitsOf s).length = 8 * s.length := by
  induction s with
  | nil => rfl
  | cons c r ih => simp only [bitsOf, List.length_append, ih, bits8_len, List.length_cons]; omega
theorem bitsOf_append (s t : List UInt8) : bitsOf (s ++ t) = bitsOf s ++ bitsOf t := by
  induction s with
  | nil => rfl
  | cons c r ih => simp [bitsOf, ih]
def AllBit (L : List Nat) : Prop := ∀ b ∈ L, b < 2
theorem bits8_bit (c : Nat) : AllBit (bits8 c) := by
  intro b hb
  simp only [bits8, List.mem_cons, List.not_mem_nil, or_false] at hb
  omega
theorem bitsOf_bit (s : List UInt8) : AllBit (bitsOf s) := by
  induction s with
  | nil => intro b hb; simp [bitsOf] at hb
  | cons c r ih =>
    intro b hb
    rcases List.mem_append.1 hb with h | h
    · exact bits8_bit _ _ h
    · exact ih b h
theorem bit_getD (L : List Nat) (h : AllBit L) (i : Nat) : L.getD i 0 < 2 := by
  by_cases hi : i < L.length
  · rw [getD_in _ _ hi]; exact h _ (List.getElem_mem hi)
  · rw [getD_out _ _ (by omega)]; omega
theorem bits8_at (c j : Nat) (hj : j < 8) : (bits8 c).getD j 0 = c / 2 ^ (7 - j) % 2 := by
  rcases (show j = 0 ∨ j = 1 ∨ j = 2 ∨ j = 3 ∨ j = 4 ∨ j = 5 ∨ j = 6 ∨ j = 7 by omega) with h | h | h | h | h | h | h | h <;> subst h <;> simp [bits8]
theorem bitsOf_at (s : List UInt8) (i j : Nat) (hi : i < s.length) (hj : j < 8) : (bitsOf s).getD (8 * i + j) 0 = s[i].toNat / 2 ^ (7 - j) % 2 := by
  induction s generalizing i with
  | nil => simp at hi
  | cons c r ih =>
    simp only [bitsOf]
    cases i with
    | zero =>
      rw [Nat.mul_zero, Nat.zero_add]
      have : (bits8 c.toNat ++ bitsOf r).getD j 0 = (bits8 c.toNat).getD j 0 := by
        simp only [List.getD]; rw [List.getElem?_append_left (by rw [bits8_len]; exact hj)]
      rw [this, bits8_at _ _ hj]; rfl
    | succ i =>
      have : (bits8 c.toNat ++ bitsOf r).getD (8 * (i + 1) + j) 0 = (bitsOf r).getD (8 * i + j) 0 := by
        simp only [List.getD]; rw [List.getElem?_append_right (by rw [bits8_len]; omega), bits8_len, show 8 * (i + 1) + j - 8 = 8 * i + j by omega]
      rw [this, ih i (by simpa using hi)]; rfl
/-- a list of bits as a number, the first one the highest -/
def bval (L : List Nat) : Nat := L.foldl (fun x b => 2 * x + b) 0
theorem bval_snoc (L : List Nat) (b : Nat) : bval (L ++ [b]) = 2 * bval L + b := by unfold bval; rw [List.foldl_append]; rfl
theorem bval_nil : bval [] = 0 := rfl
def bv (B : List Nat) (p k : Nat) : Nat := bval ((B.drop p).take k)
theorem bv_zero (B : List Nat) (p : Nat) : bv B p 0 = 0 := rfl
theorem bv_succ (B : List Nat) (p k : Nat) (h : p + k < B.length) : bv B p (k + 1) = 2 * bv B p k + B.getD (p + k) 0 := by
  unfold bv
  rw [take_succ_getD _ _ (by rw [List.length_drop]; omega), bval_snoc]
  congr 1
  simp [List.getD, List.getElem?_drop]
theorem bv_lt (B : List Nat) (hB : AllBit B) (p k : Nat) : bv B p k < 2 ^ k := by
  induction k with
  | zero => simp [bv_zero]
  | succ k ih =>
    by_cases h : p + k < B.length
    · rw [bv_succ B p k h, Nat.pow_succ]
      have := bit_getD B hB (p + k)
      omega
    · have : bv B p (k + 1) = bv B p k := by
        unfold bv; rw [List.take_of_length_le (by rw [List.length_drop]; omega), List.take_of_length_le (by rw [List.length_drop]; omega)]
      rw [this, Nat.pow_succ]; omega
/-- so many bits for a draw below n -/
def kn (n : Nat) : Nat := bl (n - 1)
theorem kn_one : kn 1 = 0 := rfl
theorem kn_pos (n : Nat) (h : 2 ≤ n) : 0 < kn n := (bl_pos _).2 (by omega)
theorem kn_le_iff (n k : Nat) (h : 1 ≤ n) : kn n ≤ k ↔ n ≤ 2 ^ k := by
  unfold kn; rw [bl_le]; omega
theorem kn_eq (n k : Nat) (h1 : n ≤ 2 ^ k) (h2 : k = 0 ∨ 2 ^ (k - 1) < n) (hn : 1 ≤ n) : kn n = k := by
  have a := (kn_le_iff n k hn).2 h1
  rcases h2 with h | h
  · omega
  · have := mt (kn_le_iff n (k - 1) hn).1 (by omega)
    omega
theorem kn_le60 (n : Nat) (h1 : 1 ≤ n) (h : n ≤ 1152921504606846976) : kn n ≤ 60 := (kn_le_iff n 60 h1).2 (by simpa using h)
/-- a number below n, drawn at p: nothing, or it and the place behind it -/
inductive DB (B : List Nat) (n : Nat) : Nat → Option (Nat × Nat) → Prop
  | short {p : Nat} : B.length < p + kn n → DB B n p none
  | hit {p : Nat} : p + kn n ≤ B.length → bv B p (kn n) < n → DB B n p (some (bv B p (kn n), p + kn n))
  | miss {p : Nat} {r : Option (Nat × Nat)} : p + kn n ≤ B.length → n ≤ bv B p (kn n) → DB B n (p + kn n) r → DB B n p r
theorem DB.det {B : List Nat} {n p : Nat} {r r' : Option (Nat × Nat)} (h : DB B n p r) (h' : DB B n p r') : r = r' := by
  induction h generalizing r' with
  | short h1 => cases h' with
    | short => rfl
    | hit => omega
    | miss => omega
  | hit h1 h2 => cases h' with
    | short => omega
    | hit => rfl
    | miss => omega
  | miss h1 h2 _ ih => cases h' with
    | short => omega
    | hit => omega
    | miss _ _ h3 => exact ih h3
theorem DB.ge {B : List Nat} {n p : Nat} {r : Option (Nat × Nat)} (h : DB B n p r) : ∀ x q, r = some (x, q) → p + kn n ≤ q ∧ q ≤ B.length ∧ x < n := by
  induction h with
  | short => intro x q e; cases e
  | hit h1 h2 => intro x q e; injection e with e; injection e with e1 e2; omega
  | miss h1 h2 _ ih => intro x q e; have := ih x q e; omega
/-- how many draws told true, odd or even -/
inductive DL (B : List Nat) (a b : Nat) : Nat → Nat → Option (Bool × Nat) → Prop
  | none {k p : Nat} : DB B (b * k) p none → DL B a b k p none
  | stop {k p x q : Nat} : DB B (b * k) p (some (x, q)) → a ≤ x → DL B a b k p (some (decide (k % 2 = 1), q))
  | go {k p x q : Nat} {r : Option (Bool × Nat)} : DB B (b * k) p (some (x, q)) → x < a → DL B a b (k + 1) q r → DL B a b k p r
theorem DL.det {B : List Nat} {a b k p : Nat} {r r' : Option (Bool × Nat)} (h : DL B a b k p r) (h' : DL B a b k p r') : r = r' := by
  induction h generalizing r' with
  | none h1 => cases h' with
    | none => rfl
    | stop h2 => have := h1.det h2; cases this
    | go h2 => have := h1.det h2; cases this
  | stop h1 h3 => cases h' with
    | none h2 => have := h1.det h2; cases this
    | stop h2 => have := h1.det h2; injection this with e; injection e with e1 e2; rw [e2]
    | go h2 h4 => have := h1.det h2; injection this with e; injection e with e1 e2; omega
  | go h1 h3 _ ih => cases h' with
    | none h2 => have := h1.det h2; cases this
    | stop h2 h4 => have := h1.det h2; injection this with e; injection e with e1 e2; omega
    | go h2 h4 h5 => have := h1.det h2; injection this with e; injection e with e1 e2; subst e2; exact ih h5
theorem DL.ge {B : List Nat} {a b k p : Nat} {r : Option (Bool × Nat)} (h : DL B a b k p r) : ∀ x q, r = some (x, q) → p + kn (b * k) ≤ q ∧ q ≤ B.length ∧ (a = 1 → b = 1 → k = 1 → p < q) := by
  induction h with
  | none => intro x q e; cases e
  | stop h1 h2 =>
    intro x q e; injection e with e; injection e with e1 e2; have := h1.ge _ _ rfl; subst e2
    refine ⟨this.1, this.2.1, fun ha hb hk => ?_⟩
    subst ha hb hk; omega
  | go h1 h2 _ ih =>
    intro x q e; have i1 := ih x q e; have := h1.ge _ _ rfl
    refine ⟨by omega, by omega, fun ha hb hk => ?_⟩
    subst ha hb hk
    have := kn_pos (1 * (1 + 1)) (by omega); omega
inductive DE (B : List Nat) (b : Nat) : Nat → Nat → Option (Bool × Nat) → Prop
  | base {a p : Nat} {r : Option (Bool × Nat)} : a < b → DL B a b 1 p r → DE B b a p r
  | none {a p : Nat} : b ≤ a → DL B 1 1 1 p none → DE B b a p none
  | no {a p q : Nat} : b ≤ a → DL B 1 1 1 p (some (false, q)) → DE B b a p (some (false, q))
  | yes {a p q : Nat} {r : Option (Bool × Nat)} : b ≤ a → DL B 1 1 1 p (some (true, q)) → DE B b (a - b) q r → DE B b a p r
theorem DE.det {B : List Nat} {b a p : Nat} {r r' : Option (Bool × Nat)} (h : DE B b a p r) (h' : DE B b a p r') : r = r' := by
  induction h generalizing r' with
  | base h1 h2 => cases h' with
    | base _ h3 => exact h2.det h3
    | none => omega
    | no => omega
    | yes => omega
  | none h1 h2 => cases h' with
    | base => omega
    | none => rfl
    | no _ h3 => have := h2.det h3; cases this
    | yes _ h3 => have := h2.det h3; cases this
  | no h1 h2 => cases h' with
    | base => omega
    | none _ h3 => have := h2.det h3; cases this
    | no _ h3 => exact h2.det h3
    | yes _ h3 => have := h2.det h3; cases this
  | yes h1 h2 _ ih => cases h' with
    | base => omega
    | none _ h3 => have := h2.det h3; cases this
    | no _ h3 => have := h2.det h3; cases this
    | yes _ h3 h4 => have := h2.det h3; injection this with e; injection e with e1 e2; subst e2; exact ih h4
theorem DE.ge {B : List Nat} {b a p : Nat} {r : Option (Bool × Nat)} (h : DE B b a p r) : ∀ x q, r = some (x, q) → p ≤ q ∧ q ≤ B.length ∧ (0 < a → p < q) := by
  induction h with
  | base h1 h2 =>
    intro x q e; have := h2.ge x q e
    refine ⟨by omega, by omega, fun ha => ?_⟩
    have h9 := kn_pos (b * 1) (by omega); omega
  | none => intro x q e; cases e
  | no h1 h2 =>
    intro x q e; injection e with e; injection e with e1 e2; subst e2
    have := h2.ge _ _ rfl
    exact ⟨by omega, by omega, fun _ => this.2.2 rfl rfl rfl⟩
  | yes h1 h2 _ ih =>
    intro x q e
    have i1 := ih x q e
    have := h2.ge _ _ rfl
    have h3 := this.2.2 rfl rfl rfl
    exact ⟨by omega, by omega, fun _ => by omega⟩
inductive DC (B : List Nat) (a b : Nat) : Nat → Nat → Option (Nat × Nat) → Prop
  | none {m p : Nat} : DE B b a p none → DC B a b m p none
  | stop {m p q : Nat} : DE B b a p (some (false, q)) → DC B a b m p (some (m, q))
  | go {m p q : Nat} {r : Option (Nat × Nat)} : DE B b a p (some (true, q)) → DC B a b (m + 1) q r → DC B a b m p r
theorem DC.det {B : List Nat} {a b m p : Nat} {r r' : Option (Nat × Nat)} (h : DC B a b m p r) (h' : DC B a b m p r') : r = r' := by
  induction h generalizing r' with
  | none h1 => cases h' with
    | none => rfl
    | stop h2 => have := h1.det h2; cases this
    | go h2 => have := h1.det h2; cases this
  | stop h1 => cases h' with
    | none h2 => have := h1.det h2; cases this
    | stop h2 => have := h1.det h2; injection this with e; injection e with e1 e2; rw [e2]
    | go h2 => have := h1.det h2; injection this with e; injection e with e1 e2; cases e1
  | go h1 _ ih => cases h' with
    | none h2 => have := h1.det h2; cases this
    | stop h2 => have := h1.det h2; injection this with e; injection e with e1 e2; cases e1
    | go h2 h4 => have := h1.det h2; injection this with e; injection e with e1 e2; subst e2; exact ih h4
theorem DC.ge {B : List Nat} {a b m p : Nat} {r : Option (Nat × Nat)} (h : DC B a b m p r) : ∀ x q, r = some (x, q) → p ≤ q ∧ q ≤ B.length ∧ (0 < a → p < q) := by
  induction h with
  | none => intro x q e; cases e
  | stop h1 => intro x q e; injection e with e; injection e with e1 e2; subst e2; exact h1.ge _ _ rfl
  | go h1 _ ih => intro x q e; have := ih x q e; have := h1.ge _ _ rfl; exact ⟨by omega, by omega, fun h => by omega⟩
/-- with a sign -/
inductive DP (B : List Nat) (a b : Nat) : Nat → Option (Int × Nat) → Prop
  | none {p : Nat} : DC B a b 0 p none → DP B a b p none
  | short {p m q : Nat} : DC B a b 0 p (some (m, q)) → B.length ≤ q → DP B a b p none
  | plus {p m q : Nat} : DC B a b 0 p (some (m, q)) → q < B.length → B.getD q 0 = 0 → DP B a b p (some ((m : Int), q + 1))
  | minus {p m q : Nat} : DC B a b 0 p (some (m, q)) → q < B.length → B.getD q 0 ≠ 0 → 0 < m → DP B a b p (some (-(m : Int), q + 1))
  | again {p q : Nat} {r : Option (Int × Nat)} : DC B a b 0 p (some (0, q)) → q < B.length → B.getD q 0 ≠ 0 → DP B a b (q + 1) r → DP B a b p r
theorem DP.det {B : List Nat} {a b p : Nat} {r r' : Option (Int × Nat)} (h : DP B a b p r) (h' : DP B a b p r') : r = r' := by
  induction h generalizing r' with
  | none h1 => cases h' with
    | none => rfl
    | short h2 => have := h1.det h2; cases this
    | plus h2 => have := h1.det h2; cases this
    | minus h2 => have := h1.det h2; cases this
    | again h2 => have := h1.det h2; cases this
  | short h1 h3 => cases h' with
    | none h2 => have := h1.det h2; cases this
    | short h2 => rfl
    | plus h2 => have := h1.det h2; injection this with e; injection e with e1 e2; omega
    | minus h2 => have := h1.det h2; injection this with e; injection e with e1 e2; omega
    | again h2 => have := h1.det h2; injection this with e; injection e with e1 e2; omega
  | plus h1 h3 h5 => cases h' with
    | none h2 => have := h1.det h2; cases this
    | short h2 => have := h1.det h2; injection this with e; injection e with e1 e2; omega
    | plus h2 => have := h1.det h2; injection this with e; injection e with e1 e2; subst e1 e2; rfl
    | minus h2 _ h6 => have := h1.det h2; injection this with e; injection e with e1 e2; subst e2; exact absurd h5 h6
    | again h2 _ h6 => have := h1.det h2; injection this with e; injection e with e1 e2; subst e2; exact absurd h5 h6
  | minus h1 h3 h5 h7 => cases h' with
    | none h2 => have := h1.det h2; cases this
    | short h2 => have := h1.det h2; injection this with e; injection e with e1 e2; omega
    | plus h2 _ h6 => have := h1.det h2; injection this with e; injection e with e1 e2; subst e2; exact absurd h6 h5
    | minus h2 _ h6 => have := h1.det h2; injection this with e; injection e with e1 e2; subst e1 e2; rfl
    | again h2 _ h6 => have := h1.det h2; injection this with e; injection e with e1 e2; omega
  | again h1 h3 h5 _ ih => cases h' with
    | none h2 => have := h1.det h2; cases this
    | short h2 => have := h1.det h2; injection this with e; injection e with e1 e2; omega
    | plus h2 _ h6 => have := h1.det h2; injection this with e; injection e with e1 e2; subst e2; exact absurd h6 h5
    | minus h2 _ h6 h7 => have := h1.det h2; injection this with e; injection e with e1 e2; omega
    | again h2 _ h6 h7 => have := h1.det h2; injection this with e; injection e with e1 e2; subst e2; exact ih h7
theorem DP.ge {B : List Nat} {a b p : Nat} {r : Option (Int × Nat)} (h : DP B a b p r) : ∀ x q, r = some (x, q) → p < q ∧ q ≤ B.length := by
  induction h with
  | none => intro x q e; cases e
  | short => intro x q e; cases e
  | plus h1 h2 => intro x q e; injection e with e; injection e with e1 e2; have := h1.ge _ _ rfl; omega
  | minus h1 h2 => intro x q e; injection e with e; injection e with e1 e2; have := h1.ge _ _ rfl; omega
  | again h1 h2 _ _ ih => intro x q e; have := ih x q e; have := h1.ge _ _ rfl; omega
end Go.Ulp
