/- sum.all: the sum of a list, rounded once. -/
import Derived.Test.YtincggkdlegjjaaDoorSu0
import Derived.Test.YtincggkdlegjjaaDoorSh
set_option linter.unusedVariables false
set_option linter.unusedSimpArgs false
namespace Go.Ulp
open Go.RowKit
/-- what the loop holds -/
def AS (L : List Nat) (i : Nat) (inf : Int) (cl nn : Bool) (ng ps : Nat) (S : Int) : Prop :=
  inf = infTo L i ∧ cl = clashTo L i ∧ nn = anyTo isNan L i ∧ ng = cntTo mZer L i ∧ ps = cntTo pZer L i ∧ S = sumTo L i
theorem AS.start (L : List Nat) : AS L 0 0 false false 0 0 0 := ⟨rfl, rfl, rfl, rfl, rfl, rfl⟩
theorem AS.nan {L : List Nat} {i : Nat} {inf : Int} {cl nn : Bool} {ng ps : Nat} {S : Int} (h : AS L i inf cl nn ng ps S) (hc : classOf (lb L i) = 5) : AS L (i + 1) inf cl true ng ps S := by
  obtain ⟨a, b, c, d, e, f⟩ := h
  unfold AS infTo clashTo anyTo cntTo sumTo mZer pZer isInf isNan isZer uV
  rw [hc]
  simp [← a, ← b, ← d, ← e, ← f]
  exact ⟨d, e⟩
theorem AS.inf {L : List Nat} {i : Nat} {inf : Int} {cl nn : Bool} {ng ps : Nat} {S : Int} (h : AS L i inf cl nn ng ps S) (hc : classOf (lb L i) = 4) : AS L (i + 1) (lb L i) (cl || (decide (inf ≠ 0) && decide (inf ≠ lb L i))) nn ng ps S := by
  obtain ⟨a, b, c, d, e, f⟩ := h
  subst a b c d e f
  unfold AS
  rw [show infTo L (i + 1) = if isInf (lb L i) then lb L i else infTo L i from rfl, show clashTo L (i + 1) = if isInf (lb L i) then clashTo L i || (decide (infTo L i ≠ 0) && decide (infTo L i ≠ lb L i)) else clashTo L i from rfl,
    show anyTo isNan L (i + 1) = (anyTo isNan L i || isNan (lb L i)) from rfl, show cntTo mZer L (i + 1) = cntTo mZer L i + (if mZer (lb L i) then 1 else 0) from rfl, show cntTo pZer L (i + 1) = cntTo pZer L i + (if pZer (lb L i) then 1 else 0) from rfl, show sumTo L (i + 1) = sumTo L i + uV (lb L i) from rfl]
  unfold mZer pZer isInf isNan isZer uV
  rw [hc]
  simp
theorem AS.zer {L : List Nat} {i : Nat} {inf : Int} {cl nn : Bool} {ng ps : Nat} {S : Int} (h : AS L i inf cl nn ng ps S) (hc : classOf (lb L i) = 1) (hu : uV (lb L i) = 0) :
    AS L (i + 1) inf cl nn (ng + (if negB (lb L i) then 1 else 0)) (ps + (if negB (lb L i) then 0 else 1)) S := by
  obtain ⟨a, b, c, d, e, f⟩ := h
  subst a b c d e f
  unfold AS
  rw [show infTo L (i + 1) = if isInf (lb L i) then lb L i else infTo L i from rfl, show clashTo L (i + 1) = if isInf (lb L i) then clashTo L i || (decide (infTo L i ≠ 0) && decide (infTo L i ≠ lb L i)) else clashTo L i from rfl,
    show anyTo isNan L (i + 1) = (anyTo isNan L i || isNan (lb L i)) from rfl, show cntTo mZer L (i + 1) = cntTo mZer L i + (if mZer (lb L i) then 1 else 0) from rfl, show cntTo pZer L (i + 1) = cntTo pZer L i + (if pZer (lb L i) then 1 else 0) from rfl, show sumTo L (i + 1) = sumTo L i + uV (lb L i) from rfl]
  rw [hu]
  unfold mZer pZer isInf isNan isZer
  rw [hc]
  cases negB (lb L i) <;> simp
theorem AS.val {L : List Nat} {i : Nat} {inf : Int} {cl nn : Bool} {ng ps : Nat} {S : Int} (h : AS L i inf cl nn ng ps S) (h5 : classOf (lb L i) ≠ 5) (h4 : classOf (lb L i) ≠ 4) (h1 : classOf (lb L i) ≠ 1) :
    AS L (i + 1) inf cl nn ng ps (S + uV (lb L i)) := by
  obtain ⟨a, b, c, d, e, f⟩ := h
  subst a b c d e f
  unfold AS
  rw [show infTo L (i + 1) = if isInf (lb L i) then lb L i else infTo L i from rfl, show clashTo L (i + 1) = if isInf (lb L i) then clashTo L i || (decide (infTo L i ≠ 0) && decide (infTo L i ≠ lb L i)) else clashTo L i from rfl,
    show anyTo isNan L (i + 1) = (anyTo isNan L i || isNan (lb L i)) from rfl, show cntTo mZer L (i + 1) = cntTo mZer L i + (if mZer (lb L i) then 1 else 0) from rfl, show cntTo pZer L (i + 1) = cntTo pZer L i + (if pZer (lb L i) then 1 else 0) from rfl, show sumTo L (i + 1) = sumTo L i + uV (lb L i) from rfl]
  unfold mZer pZer isInf isNan isZer
  have e5 : (classOf (lb L i) == 5) = false := beq_eq_false_iff_ne.2 h5
  have e4 : (classOf (lb L i) == 4) = false := beq_eq_false_iff_ne.2 h4
  have e1 : (classOf (lb L i) == 1) = false := beq_eq_false_iff_ne.2 h1
  rw [e5, e4, e1]
  simp
section
variable {L : List Nat} {inf : Int} {cl nn : Bool} {ng ps : Nat} {S : Int} {mode : Int}
theorem AS.sNan (hL : ∀ j, lb L j < 18446744073709551616) (h : AS L L.length inf cl nn ng ps S) : Go.Ulp.sNan L = (nn || cl) := by
  obtain ⟨a, b, c, d, e, f⟩ := h
  unfold Go.Ulp.sNan
  rw [c, b]
  rcases inf_state L hL L.length with ⟨x, y, z, t⟩ | ⟨x, y, t⟩ | ⟨x, y, t⟩
  · rw [t, y, z]; rfl
  · rw [t, y]; simp
  · rw [t, y]; simp
theorem AS.sInf (hL : ∀ j, lb L j < 18446744073709551616) (h : AS L L.length inf cl nn ng ps S) : Go.Ulp.sInf L = decide (inf ≠ 0) := by
  obtain ⟨a, b, c, d, e, f⟩ := h
  unfold Go.Ulp.sInf
  rw [a]
  rcases inf_state L hL L.length with ⟨x, y, z, t⟩ | ⟨x, y, t⟩ | ⟨x, y, t⟩
  · rw [x, y, z]; rfl
  · rw [x, y]; simp
  · rw [x, y]; simp
theorem AS.infX (hL : ∀ j, lb L j < 18446744073709551616) (h : AS L L.length inf cl nn ng ps S) (hc : cl = false) (hi : inf ≠ 0) : inf = if anyTo mInf L L.length then 18442240474082181120 else 9218868437227405312 := by
  obtain ⟨a, b, c, d, e, f⟩ := h
  rcases inf_state L hL L.length with ⟨x, y, z, t⟩ | ⟨x, y, t⟩ | ⟨x, y, t⟩
  · exact absurd (a.trans x) hi
  · rw [← t, ← b, hc]; rw [a, x]; rfl
  · rw [y]; rw [a, x]; rfl
theorem AS.ansNan (hL : ∀ j, lb L j < 18446744073709551616) (h : AS L L.length inf cl nn ng ps S) (hb : (nn || cl) = true) : sumX L mode = 9221120237041090560 ∧ sumC L mode = false := by
  unfold sumX sumC; rw [h.sNan hL, hb]; exact ⟨rfl, rfl⟩
theorem AS.ansInf (hL : ∀ j, lb L j < 18446744073709551616) (h : AS L L.length inf cl nn ng ps S) (hb : (nn || cl) = false) (hi : inf ≠ 0) : sumX L mode = inf ∧ sumC L mode = false := by
  have hc : cl = false := by cases cl; rfl; rw [Bool.or_true] at hb; cases hb
  unfold sumX sumC; rw [h.sNan hL, hb, h.sInf hL, decide_eq_true hi]; exact ⟨(h.infX hL hc hi).symm, rfl⟩
theorem AS.ansNum (hL : ∀ j, lb L j < 18446744073709551616) (h : AS L L.length inf cl nn ng ps S) (hb : (nn || cl) = false) (hi : inf = 0) (hS : S ≠ 0) : sumX L mode = rX (nrm S (-1074)) mode ∧ sumC L mode = rC (nrm S (-1074)) mode := by
  have e := h.2.2.2.2.2
  unfold sumX sumC sDy; rw [h.sNan hL, hb, h.sInf hL, decide_eq_false (by simpa using hi), ← e, if_pos hS, if_pos hS]; exact ⟨rfl, rfl⟩
theorem AS.ansPos (hL : ∀ j, lb L j < 18446744073709551616) (h : AS L L.length inf cl nn ng ps S) (hb : (nn || cl) = false) (hi : inf = 0) (hS : S = 0) (hp : ps = L.length) : sumX L mode = 0 ∧ sumC L mode = false := by
  have e := h.2.2.2.2.2
  have e2 := h.2.2.2.2.1
  unfold sumX sumC; rw [h.sNan hL, hb, h.sInf hL, decide_eq_false (by simpa using hi), ← e, if_neg (not_not_intro hS), if_neg (not_not_intro hS), ← e2, if_pos hp]; exact ⟨rfl, rfl⟩
theorem AS.ansNeg (hL : ∀ j, lb L j < 18446744073709551616) (h : AS L L.length inf cl nn ng ps S) (hb : (nn || cl) = false) (hi : inf = 0) (hS : S = 0) (hp : ps ≠ L.length) (hn : ng = L.length) : sumX L mode = 9223372036854775808 ∧ sumC L mode = false := by
  have e := h.2.2.2.2.2
  have e2 := h.2.2.2.2.1
  have e3 := h.2.2.2.1
  unfold sumX sumC; rw [h.sNan hL, hb, h.sInf hL, decide_eq_false (by simpa using hi), ← e, if_neg (not_not_intro hS), if_neg (not_not_intro hS), ← e2, if_neg hp, ← e3, if_pos hn]; exact ⟨rfl, rfl⟩
theorem AS.ansNone (hL : ∀ j, lb L j < 18446744073709551616) (h : AS L L.length inf cl nn ng ps S) (hb : (nn || cl) = false) (hi : inf = 0) (hS : S = 0) (hp : ps ≠ L.length) (hn : ng ≠ L.length) : sumX L mode = sgb (mode == 2) ∧ sumC L mode = false := by
  have e := h.2.2.2.2.2
  have e2 := h.2.2.2.2.1
  have e3 := h.2.2.2.1
  unfold sumX sumC sgb; rw [h.sNan hL, hb, h.sInf hL, decide_eq_false (by simpa using hi), ← e, if_neg (not_not_intro hS), if_neg (not_not_intro hS), ← e2, if_neg hp, ← e3, if_neg hn]
  refine ⟨?_, rfl⟩
  by_cases m : mode = 2
  · rw [if_pos m, beq_iff_eq.2 m]; rfl
  · rw [if_neg m, beq_eq_false_iff_ne.2 m]; rfl
end
theorem sumD_bd (A : Nat) (hA : A = 2298) (L : List Nat) (hL : ∀ j, lb L j < 18446744073709551616) (i : Nat) (hi : i ≤ 200) : (nrm (sumTo L i) (-1074)).1.natAbs < 2 ^ A ∧ -1074 ≤ (nrm (sumTo L i) (-1074)).2 ∧ (nrm (sumTo L i) (-1074)).2 ≤ 4000 := by
  have h := sumTo_bd 2098 (Nat.le_refl _) L hL i
  have h2 := Nat.lt_of_lt_of_le h (Nat.pow_le_pow_right (by omega) (show 2098 + i ≤ A by omega))
  obtain ⟨k1, k2⟩ := nrm_bd (sumTo L i) (-1074) A h2
  exact ⟨k1, by rcases k2 with k | k <;> omega, by rcases k2 with k | k <;> omega⟩
end Go.Ulp
namespace Go.Proofs.YtincggkdlegjjaaDoor
open Go.RowKit Go.Ulp
set_option linter.unusedVariables false
set_option linter.unusedSimpArgs false
set_option maxHeartbeats 2000000
set_option maxRecDepth 100000
end Go.Proofs.YtincggkdlegjjaaDoor
