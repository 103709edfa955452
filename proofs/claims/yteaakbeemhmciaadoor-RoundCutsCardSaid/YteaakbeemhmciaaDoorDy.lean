/- Whole numbers times powers of two, each in one form: plain facts, no program in sight. -/
import Derived.Test.YteaakbeemhmciaaDoorNum
set_option linter.unusedVariables false
set_option linter.unusedSimpArgs false
namespace Go.Ulp
/-- how often a number is twice another (with fuel) -/
def twF : Nat → Nat → Nat
  | 0, _ => 0
  | f + 1, n => if n % 2 = 0 then twF f (n / 2) + 1 else 0
def tw (n : Nat) : Nat := if n = 0 then 0 else twF n n
/-- what is left then -/
def od (n : Nat) : Nat := n / 2 ^ tw n
theorem twF_spec : ∀ f n, 0 < n → n ≤ f → ∃ m, n = m * 2 ^ twF f n ∧ m % 2 = 1 := by
  intro f
  induction f with
  | zero => intro n h0 h1; omega
  | succ f ih =>
    intro n h0 h1
    by_cases h : n % 2 = 0
    · obtain ⟨m, hm, ho⟩ := ih (n / 2) (by omega) (by omega)
      refine ⟨m, ?_, ho⟩
      simp only [twF, if_pos h]
      rw [Nat.pow_succ, ← Nat.mul_assoc, ← hm]; omega
    · exact ⟨n, by simp [twF, if_neg h], by omega⟩
theorem od_tw (n : Nat) (h : 0 < n) : od n * 2 ^ tw n = n ∧ od n % 2 = 1 := by
  obtain ⟨m, hm, ho⟩ := twF_spec n n h (Nat.le_refl _)
  have e : tw n = twF n n := by unfold tw; rw [if_neg (by omega)]
  have e2 : od n = m := by
    unfold od; rw [e]
    generalize twF n n = t at hm
    subst hm
    exact Nat.mul_div_cancel _ (Nat.two_pow_pos _)
  rw [e2, e]; exact ⟨hm.symm, ho⟩
theorem odd_pow_inj {a b i j : Nat} (ha : a % 2 = 1) (hb : b % 2 = 1) (h : a * 2 ^ i = b * 2 ^ j) : i = j ∧ a = b := by
  have key : ∀ {a b i j : Nat}, a % 2 = 1 → i < j → a * 2 ^ i = b * 2 ^ j → False := by
    intro a b i j ha hij h
    obtain ⟨k, rfl⟩ : ∃ k, j = i + (k + 1) := ⟨j - i - 1, by omega⟩
    rw [Nat.pow_add, Nat.mul_comm (2 ^ i), ← Nat.mul_assoc] at h
    have := Nat.eq_of_mul_eq_mul_right (Nat.two_pow_pos i) h
    rw [Nat.pow_succ, ← Nat.mul_assoc] at this
    omega
  rcases Nat.lt_trichotomy i j with h1 | h1 | h1
  · exact absurd (key ha h1 h) id
  · subst h1; exact ⟨rfl, Nat.eq_of_mul_eq_mul_right (Nat.two_pow_pos i) h⟩
  · exact absurd (key hb h1 h.symm) id
theorem tw_od_mul (m k : Nat) (h : m % 2 = 1) : tw (m * 2 ^ k) = k ∧ od (m * 2 ^ k) = m := by
  have hp : 0 < m * 2 ^ k := Nat.mul_pos (by omega) (Nat.two_pow_pos k)
  obtain ⟨h1, h2⟩ := od_tw _ hp
  exact odd_pow_inj h2 h h1
theorem tw_mul (n k : Nat) (h : 0 < n) : tw (n * 2 ^ k) = tw n + k ∧ od (n * 2 ^ k) = od n := by
  obtain ⟨h1, h2⟩ := od_tw n h
  have := tw_od_mul (od n) (tw n + k) h2
  rw [Nat.pow_add, ← Nat.mul_assoc, h1] at this
  exact this
theorem od_pos (n : Nat) (h : 0 < n) : 0 < od n := by have := (od_tw n h).2; omega
theorem od_le (n : Nat) : od n ≤ n := Nat.div_le_self _ _
/-- 2^k divides just so often -/
theorem tw_ge (n k : Nat) (h : 0 < n) : n % 2 ^ k = 0 ↔ k ≤ tw n := by
  obtain ⟨h1, h2⟩ := od_tw n h
  constructor
  · intro hk
    obtain ⟨m, hm⟩ := Nat.dvd_of_mod_eq_zero hk
    have hmp : 0 < m := by rcases Nat.eq_zero_or_pos m with e | e; · (subst e; omega)
                           · exact e
    have := (tw_mul m k hmp).1
    rw [Nat.mul_comm, ← hm] at this; omega
  · intro hk
    obtain ⟨d, hd⟩ : ∃ d, tw n = k + d := ⟨tw n - k, by omega⟩
    rw [← h1, hd, Nat.pow_add, Nat.mul_comm, Nat.mul_assoc]; exact Nat.mul_mod_right _ _

/-- 2^n as a whole number -/
def pw (n : Nat) : Int := ((2 ^ n : Nat) : Int)
theorem pw_nat (n : Nat) : pw n = ((2 ^ n : Nat) : Int) := rfl
theorem pw_abs (n : Nat) : (pw n).natAbs = 2 ^ n := Int.natAbs_natCast _
theorem pw_pos (n : Nat) : 0 < pw n := by unfold pw; have := Nat.two_pow_pos n; omega
theorem pw_add (m n : Nat) : pw (m + n) = pw m * pw n := by unfold pw; rw [Nat.pow_add, Int.natCast_mul]
theorem pw_zero : pw 0 = 1 := rfl
theorem pw_inj {a b : Int} (k : Nat) (h : a * pw k = b * pw k) : a = b := Int.eq_of_mul_eq_mul_right (by have := pw_pos k; omega) h
theorem pw_lt {a b : Int} (k : Nat) : a * pw k < b * pw k ↔ a < b := ⟨fun h => Int.lt_of_mul_lt_mul_right h (Int.le_of_lt (pw_pos k)), fun h => Int.mul_lt_mul_of_pos_right h (pw_pos k)⟩

/-- -1, 0 or 1: which one is less -/
def cmpI (a b : Int) : Int := if a < b then -1 else if b < a then 1 else 0
theorem cmpI_pw (a b : Int) (k : Nat) : cmpI (a * pw k) (b * pw k) = cmpI a b := by
  unfold cmpI; simp only [pw_lt]

/-- a number times a power of two -/
abbrev Dy := Int × Int
/-- a whole number times 2^e in its one form: odd, or 0 and 0 -/
def nrm (x e : Int) : Dy := if x = 0 then (0, 0) else (x / pw (tw x.natAbs), e + tw x.natAbs)
theorem nrm_zero (e : Int) : nrm 0 e = (0, 0) := rfl
theorem div_pw_tw (x : Int) : x / pw (tw x.natAbs) * pw (tw x.natAbs) = x := by
  by_cases h : x = 0
  · subst h; rfl
  · have h1 := (od_tw x.natAbs (by omega)).1
    have h2 : (x.natAbs : Int) = (od x.natAbs : Int) * pw (tw x.natAbs) := by rw [pw_nat, ← Int.natCast_mul, h1]
    have hp := pw_pos (tw x.natAbs)
    rcases Int.le_total 0 x with hx | hx
    · have e : x = (od x.natAbs : Int) * pw (tw x.natAbs) := by omega
      conv => lhs; lhs; lhs; rw [e]
      rw [Int.mul_ediv_cancel _ (by omega)]; exact e.symm
    · have e : x = -(od x.natAbs : Int) * pw (tw x.natAbs) := by rw [Int.neg_mul]; omega
      conv => lhs; lhs; lhs; rw [e]
      rw [Int.mul_ediv_cancel _ (by omega)]; exact e.symm
theorem natAbs_mul_pw (x : Int) (k : Nat) : (x * pw k).natAbs = x.natAbs * 2 ^ k := by rw [Int.natAbs_mul, pw_abs]
theorem nrm_abs (x e : Int) (h : x ≠ 0) : (nrm x e).1.natAbs = od x.natAbs := by
  unfold nrm; rw [if_neg h]
  have h1 := div_pw_tw x
  have h2 := congrArg Int.natAbs h1
  rw [natAbs_mul_pw] at h2
  have h3 := (od_tw x.natAbs (by omega)).1
  exact Nat.eq_of_mul_eq_mul_right (Nat.two_pow_pos _) (h2.trans h3.symm)
theorem nrm_scale (x e : Int) (k : Nat) : nrm (x * pw k) e = nrm x (e + k) := by
  unfold nrm
  by_cases h : x = 0
  · subst h; simp
  · have hp := pw_pos k
    have h0 : x * pw k ≠ 0 := by intro e; rcases Int.mul_eq_zero.1 e with e | e <;> omega
    rw [if_neg h, if_neg h0, natAbs_mul_pw, (tw_mul x.natAbs k (by omega)).1]
    refine Prod.ext ?_ (by simp only; omega)
    simp only
    rw [pw_add, Int.mul_comm (pw (tw x.natAbs)), Int.mul_comm x, Int.mul_ediv_mul_of_pos _ _ hp]
/-- the number behind its form -/
theorem nrm_rep (x e : Int) : ∃ k : Nat, x = (nrm x e).1 * pw k ∧ (x ≠ 0 → (nrm x e).2 = e + k) := by
  by_cases h : x = 0
  · subst h; exact ⟨0, rfl, fun h => absurd rfl h⟩
  · refine ⟨tw x.natAbs, ?_, fun _ => ?_⟩
    · unfold nrm; rw [if_neg h]; exact (div_pw_tw x).symm
    · unfold nrm; rw [if_neg h]
theorem nrm_odd (x e : Int) (h : x ≠ 0) : (nrm x e).1.natAbs % 2 = 1 := by rw [nrm_abs x e h]; exact (od_tw _ (by omega)).2
theorem nrm_zero_iff (x e : Int) : (nrm x e).1 = 0 ↔ x = 0 := by
  obtain ⟨k, h1, _⟩ := nrm_rep x e
  constructor
  · intro h; rw [h, Int.zero_mul] at h1; exact h1
  · intro h; subst h; rfl
/-- in its one form -/
def IsN (D : Dy) : Prop := (D.1 = 0 ∧ D.2 = 0) ∨ D.1.natAbs % 2 = 1
theorem nrm_isN (x e : Int) : IsN (nrm x e) := by
  by_cases h : x = 0
  · subst h; exact .inl ⟨rfl, rfl⟩
  · exact .inr (nrm_odd x e h)
theorem nrm_of_isN (D : Dy) (h : IsN D) : nrm D.1 D.2 = D := by
  obtain ⟨x, e⟩ := D
  rcases h with ⟨h1, h2⟩ | h
  · simp only at h1 h2; subst h1; subst h2; rfl
  · simp only at h
    have hx : x ≠ 0 := by intro e; subst e; simp at h
    have ht := (tw_od_mul x.natAbs 0 h).1
    rw [Nat.pow_zero, Nat.mul_one] at ht
    unfold nrm; rw [if_neg hx, ht, pw_zero, Int.ediv_one]; simp
theorem nrm_nrm (x e : Int) : nrm (nrm x e).1 (nrm x e).2 = nrm x e := nrm_of_isN _ (nrm_isN x e)
theorem nrm_eq_zero (x e : Int) (h : x = 0) : nrm x e = (0, 0) := by subst h; rfl

/-- x times 2^e, as a multiple of 2^g -/
def sc (x e g : Int) : Int := x * pw (e - g).toNat
theorem sc_zero (e g : Int) : sc 0 e g = 0 := by unfold sc; exact Int.zero_mul _
theorem sc_down (x e g h : Int) (h1 : g ≤ e ∨ x = 0) (h2 : h ≤ g) : sc x e h = sc x e g * pw (g - h).toNat := by
  rcases h1 with h1 | h1
  · unfold sc; rw [Int.mul_assoc, ← pw_add]; congr 2; omega
  · subst h1; rw [sc_zero, sc_zero, Int.zero_mul]
theorem sc_nrm (x e g : Int) (h : g ≤ e ∨ x = 0) : sc x e g = sc (nrm x e).1 (nrm x e).2 g ∧ (g ≤ (nrm x e).2 ∨ (nrm x e).1 = 0) := by
  by_cases hx : x = 0
  · subst hx; rw [nrm_zero, sc_zero, sc_zero]; exact ⟨rfl, .inr rfl⟩
  · obtain ⟨k, h1, h2⟩ := nrm_rep x e
    have h2 := h2 hx
    have h3 : g ≤ e := by omega
    refine ⟨?_, .inl (by omega)⟩
    unfold sc
    conv => lhs; rw [h1]
    rw [Int.mul_assoc, ← pw_add]; congr 2; omega
theorem sc_self (x e : Int) : sc x e e = x := by unfold sc; simp [pw_zero]

/-- sum, difference, product, opposite, shift of numbers in their form -/
def addD (D E : Dy) : Dy := nrm (sc D.1 D.2 (min D.2 E.2) + sc E.1 E.2 (min D.2 E.2)) (min D.2 E.2)
def mulD (D E : Dy) : Dy := nrm (D.1 * E.1) (D.2 + E.2)
def negD (D : Dy) : Dy := (-D.1, D.2)
def absD (D : Dy) : Dy := ((D.1.natAbs : Int), D.2)
def shD (D : Dy) (n : Int) : Dy := nrm D.1 (D.2 + n)
def cmpD (D E : Dy) : Int := cmpI (sc D.1 D.2 (min D.2 E.2)) (sc E.1 E.2 (min D.2 E.2))
def sgn (x : Int) : Int := cmpI x 0

theorem nrm_level (x e y f g h : Int) (h1 : g ≤ e ∨ x = 0) (h2 : g ≤ f ∨ y = 0) (h3 : h ≤ g) :
    nrm (sc x e h + sc y f h) h = nrm (sc x e g + sc y f g) g := by
  rw [sc_down x e g h h1 h3, sc_down y f g h h2 h3, ← Int.add_mul, nrm_scale]; congr 1; omega
theorem cmp_level (x e y f g h : Int) (h1 : g ≤ e ∨ x = 0) (h2 : g ≤ f ∨ y = 0) (h3 : h ≤ g) :
    cmpI (sc x e h) (sc y f h) = cmpI (sc x e g) (sc y f g) := by
  rw [sc_down x e g h h1 h3, sc_down y f g h h2 h3, cmpI_pw]
theorem nrm_add (x e y f g : Int) (h1 : g ≤ e ∨ x = 0) (h2 : g ≤ f ∨ y = 0) : nrm (sc x e g + sc y f g) g = addD (nrm x e) (nrm y f) := by
  obtain ⟨a1, a2⟩ := sc_nrm x e g h1
  obtain ⟨b1, b2⟩ := sc_nrm y f g h2
  rw [a1, b1]
  unfold addD
  have m1 : min (nrm x e).2 (nrm y f).2 ≤ (nrm x e).2 := by omega
  have m2 : min (nrm x e).2 (nrm y f).2 ≤ (nrm y f).2 := by omega
  generalize min (nrm x e).2 (nrm y f).2 = m at *
  rw [← nrm_level _ _ _ _ g (min g m) a2 b2 (by omega), ← nrm_level _ _ _ _ m (min g m) (.inl m1) (.inl m2) (by omega)]
theorem cmp_nrm (x e y f g : Int) (h1 : g ≤ e ∨ x = 0) (h2 : g ≤ f ∨ y = 0) : cmpI (sc x e g) (sc y f g) = cmpD (nrm x e) (nrm y f) := by
  obtain ⟨a1, a2⟩ := sc_nrm x e g h1
  obtain ⟨b1, b2⟩ := sc_nrm y f g h2
  rw [a1, b1]
  unfold cmpD
  have m1 : min (nrm x e).2 (nrm y f).2 ≤ (nrm x e).2 := by omega
  have m2 : min (nrm x e).2 (nrm y f).2 ≤ (nrm y f).2 := by omega
  generalize min (nrm x e).2 (nrm y f).2 = m at *
  rw [← cmp_level _ _ _ _ g (min g m) a2 b2 (by omega), ← cmp_level _ _ _ _ m (min g m) (.inl m1) (.inl m2) (by omega)]
theorem nrm_mul (x e y f : Int) : nrm (x * y) (e + f) = mulD (nrm x e) (nrm y f) := by
  unfold mulD
  by_cases hx : x = 0
  · subst hx; rw [nrm_zero, Int.zero_mul, Int.zero_mul, nrm_zero, nrm_zero]
  by_cases hy : y = 0
  · subst hy; rw [nrm_zero, Int.mul_zero, Int.mul_zero, nrm_zero, nrm_zero]
  obtain ⟨k, a1, a2⟩ := nrm_rep x e
  obtain ⟨l, b1, b2⟩ := nrm_rep y f
  rw [a2 hx, b2 hy]
  generalize (nrm x e).1 = X at *
  generalize (nrm y f).1 = Y at *
  have : x * y = X * Y * pw (k + l) := by rw [a1, b1, pw_add]; simp only [Int.mul_assoc, Int.mul_comm, Int.mul_left_comm]
  rw [this, nrm_scale]; congr 1; omega
theorem nrm_neg (x e : Int) : nrm (-x) e = negD (nrm x e) := by
  unfold negD nrm
  by_cases h : x = 0
  · subst h; simp
  · rw [if_neg h, if_neg (by omega), Int.natAbs_neg]
    refine Prod.ext ?_ rfl
    simp only
    have h1 := div_pw_tw x
    have h2 := div_pw_tw (-x)
    rw [Int.natAbs_neg] at h2
    exact pw_inj (tw x.natAbs) (by rw [h2, Int.neg_mul, h1])
theorem nrm_natAbs (x e : Int) : nrm (x.natAbs : Int) e = absD (nrm x e) := by
  unfold absD
  rcases Int.le_total 0 x with h | h
  · rw [show (x.natAbs : Int) = x by omega]
    refine Prod.ext ?_ rfl
    simp only
    have : 0 ≤ (nrm x e).1 := by
      unfold nrm; split
      · simp
      · exact Int.ediv_nonneg h (Int.le_of_lt (pw_pos _))
    omega
  · rw [show (x.natAbs : Int) = -x by omega, nrm_neg]
    unfold negD
    refine Prod.ext ?_ rfl
    simp only
    have h3 : nrm x e = negD (nrm (-x) e) := by rw [← nrm_neg, Int.neg_neg]
    have : 0 ≤ (nrm (-x) e).1 := by
      unfold nrm; split
      · simp
      · exact Int.ediv_nonneg (by omega) (Int.le_of_lt (pw_pos _))
    rw [h3]; unfold negD; simp only; omega
theorem nrm_shift (x e n : Int) : nrm x (e + n) = shD (nrm x e) n := by
  unfold shD
  by_cases hx : x = 0
  · subst hx; rw [nrm_zero, nrm_zero, nrm_zero]
  obtain ⟨k, a1, a2⟩ := nrm_rep x e
  rw [a2 hx]
  conv => lhs; rw [a1, nrm_scale]
  congr 1; omega
theorem cmpI_sub (a b : Int) : cmpI a b = sgn (a + -b) := by unfold sgn cmpI; split <;> split <;> (try split) <;> omega
theorem sgn_pw (a : Int) (k : Nat) : sgn (a * pw k) = sgn a := by have := cmpI_pw a 0 k; rwa [Int.zero_mul] at this
theorem sgn_nrm (x e : Int) : sgn (nrm x e).1 = sgn x := by
  obtain ⟨k, h1, _⟩ := nrm_rep x e
  conv => rhs; rw [h1]
  rw [sgn_pw]
theorem cmpD_sub (D E : Dy) : cmpD D E = sgn (addD D (negD E)).1 := by
  unfold cmpD addD negD
  simp only
  rw [sgn_nrm, cmpI_sub]; unfold sc; rw [Int.neg_mul]
theorem cmpD_zero (D : Dy) : cmpD D (0, 0) = sgn D.1 := by
  unfold cmpD
  simp only [sc_zero]
  unfold sc; exact sgn_pw _ _
theorem cmpI_eq_zero (a b : Int) : cmpI a b = 0 ↔ a = b := by unfold cmpI; split <;> (try split) <;> omega
/-- numbers in their form with one value are one -/
theorem cmpD_eq (D E : Dy) (hD : IsN D) (hE : IsN E) (h : cmpD D E = 0) : D = E := by
  have h1 := (cmpI_eq_zero _ _).1 h
  generalize hm : min D.2 E.2 = m at h1
  have e1 := nrm_of_isN D hD
  have e2 := nrm_of_isN E hE
  have s1 : nrm (sc D.1 D.2 m) m = nrm D.1 D.2 := by
    unfold sc; rw [nrm_scale]; congr 1; omega
  have s2 : nrm (sc E.1 E.2 m) m = nrm E.1 E.2 := by
    unfold sc; rw [nrm_scale]; congr 1; omega
  rw [← e1, ← s1, h1, s2, e2]
theorem cmpD_self (D : Dy) : cmpD D D = 0 := (cmpI_eq_zero _ _).2 rfl
end Go.Ulp
