/- SpanSums: what the proof leans on, part 18 (Sh Su1 Su2 Su3 Ss1). -/
import Derived.Test.YtfphmlmgjhebjaaGreatDoorKSpanSums9
import Derived.Test.YtfphmlmgjhebjaaGreatDoorKSpanSums10
import Derived.Test.YtfphmlmgjhebjaaGreatDoorKSpanSums17
set_option linter.unusedVariables false
set_option linter.unusedSimpArgs false
namespace Go.Ulp
open Go.RowKit
theorem limbs_le_bits (M n : Nat) : (limbs M).length ≤ n ↔ M < 2 ^ (32 * n) := by
  have h := digs_len_le 4294967296 (by omega) M n
  rw [Nat.pow_mul]; exact h
end Go.Ulp
namespace Go.Ulp
open Go.RowKit
/-- a variable of type Dyad that holds D -/
def DV (t : TypeId) (w : World) (g : Nat) (D : Dy) : Prop := ∃ am cm, QL t w g (decide (D.1 < 0)) (.slice am (limbs D.1.natAbs).length cm) D.2 ∧ Ns .u32 w am cm (limbs D.1.natAbs)
theorem DV.below {t : TypeId} {w w' : World} {g : Nat} {D : Dy} (h : DV t w g D) (hb : Below w.heap.size w w') : DV t w' g D := by
  obtain ⟨am, cm, h1, h2⟩ := h; exact ⟨am, cm, h1.below hb, h2.below hb⟩
theorem QL.put {t : TypeId} {w : World} {g : Nat} {n : Bool} {v : Value} {k : Int} (h : QL t w g n v k) (n' : Bool) (v' : Value) (k' : Int) :
    QL t (((w.setCell ⟨g, 0, none⟩ (.bool n')).setCell ⟨g, 1, none⟩ v').setCell ⟨g, 2, none⟩ (.int .i64 k')) g n' v' k' := by
  have h1 := (h.set0D n').set1D v'
  refine ⟨⟨(cell_set_ne (by omega)).trans h1.1.1, (cell_set_ne (by omega)).trans h1.1.2.1, ?_, ?_, ?_⟩, ?_, ?_⟩
  · rw [frozen_setCell]; exact h1.1.2.2.1
  · rw [frozen_setCell]; exact h1.1.2.2.2.1
  · exact h1.1.2.2.2.2.setCell _ _
  · exact World.cell?_setCell_same _ _ _ ((cell_set_ne (by omega)).trans ((cell_set_ne (by omega)).trans h.2.1))
  · rw [frozen_setCell]; exact h1.2.2
theorem DV.put {t : TypeId} {w : World} {g : Nat} {n : Bool} {v : Value} {k : Int} {D : Dy} {am : Option Addr} {cm : Nat} (h : QL t w g n v k) (hN : Ns .u32 w am cm (limbs D.1.natAbs)) (hv : ∀ x, v ≠ .int .u32 x) :
    DV t (((w.setCell ⟨g, 0, none⟩ (.bool (decide (D.1 < 0)))).setCell ⟨g, 1, none⟩ (.slice am (limbs D.1.natAbs).length cm)).setCell ⟨g, 2, none⟩ (.int .i64 D.2)) g D :=
  ⟨am, cm, h.put _ _ _, hN.set3 h hv _ _ _⟩
theorem DV.none_form {t : TypeId} {w : World} {g : Nat} (h : DV t w g (0, 0)) : ∃ am cm, QL t w g false (.slice am 0 cm) 0 := by
  obtain ⟨am, cm, h1, -⟩ := h
  refine ⟨am, cm, ?_⟩
  have e : (limbs ((0 : Int), (0 : Int)).1.natAbs).length = 0 := by rw [show limbs ((0 : Int), (0 : Int)).1.natAbs = [] from limbs_zero]; rfl
  rw [e] at h1
  exact h1
/-- a fresh variable for a number over a power of two -/
def Fact.q0 (B : Nat) (t : TypeId) : Fact := ⟨fun v w => ∃ g, v = .pointer (some ⟨g, 0, none⟩) ∧ B ≤ g ∧ QL t w g false (.slice none 0 0) 0, fun _ _ _ h hb => by
  obtain ⟨g, h1, h2, h3⟩ := h; exact ⟨g, h1, h2, h3.below hb⟩⟩
theorem Nz.set3Q {t e : TypeId} {w : World} {ao : Option Addr} {cap : Nat} {L : List Nat} (h : Nz e w ao cap L) {g : Nat} {n : Bool} {v : Value} {k : Int} (z : QL t w g n v k) (hne : t ≠ e) (u0 u1 u2 : Value) :
    Nz e (((w.setCell ⟨g, 0, none⟩ u0).setCell ⟨g, 1, none⟩ u1).setCell ⟨g, 2, none⟩ u2) ao cap L :=
  ((h.setCell z.1.2.2.2.2 hne _ _).setCell (z.1.2.2.2.2.setCell _ _) hne _ _).setCell ((z.1.2.2.2.2.setCell _ _).setCell _ _) hne _ _
theorem Below.put3 {B : Nat} {w w' : World} (h : Below B w w') {g : Nat} (hg : B ≤ g) (u0 u1 u2 : Value) : Below B w (((w'.setCell ⟨g, 0, none⟩ u0).setCell ⟨g, 1, none⟩ u1).setCell ⟨g, 2, none⟩ u2) :=
  ((h.setCell hg _).setCell hg _).setCell hg _
end Go.Ulp
namespace Go.Ulp
open Go.RowKit
theorem tw_lt {n A : Nat} (h0 : 0 < n) (h : n < 2 ^ A) : tw n < A := by
  have h1 := (od_tw n h0).1
  have h2 := od_pos n h0
  have h3 : 2 ^ tw n ≤ n := by
    conv => rhs; rw [← h1]
    exact Nat.le_mul_of_pos_left _ h2
  exact (Nat.pow_lt_pow_iff_right (a := 2) (by omega)).1 (Nat.lt_of_le_of_lt h3 h)
/-- the bounds of a number in its one form -/
theorem nrm_bd (y e : Int) (A : Nat) (h : y.natAbs < 2 ^ A) : (nrm y e).1.natAbs < 2 ^ A ∧ ((nrm y e).1 = 0 ∧ (nrm y e).2 = 0 ∨ e ≤ (nrm y e).2 ∧ (nrm y e).2 < e + A) := by
  by_cases h0 : y = 0
  · subst h0; exact ⟨h, .inl ⟨rfl, rfl⟩⟩
  · refine ⟨by rw [nrm_abs y e h0]; exact Nat.lt_of_le_of_lt (od_le _) h, .inr ?_⟩
    have h1 := tw_lt (n := y.natAbs) (by omega) h
    have h2 : (nrm y e).2 = e + tw y.natAbs := by unfold nrm; rw [if_neg h0]
    rw [h2]; omega
theorem fv_bd (x : Int) (h0 : 0 ≤ x) (h1 : x < 18446744073709551616) : bndB (fv x) = true ∧ ((fv x).1.natAbs < 2 ^ 53 ∧ -1074 ≤ (fv x).2 ∧ (fv x).2 ≤ 1024) := by
  have hm := mantOf_bd x
  have he := dexp_bd x
  have hA : (sg (negB x) (mantOf x)).natAbs < 2 ^ 53 := by rw [sg_abs]; omega
  obtain ⟨k1, k2⟩ := nrm_bd (sg (negB x) (mantOf x)) (dexp x) 53 hA
  have k3 : (fv x).1.natAbs < 2 ^ 53 ∧ -1074 ≤ (fv x).2 ∧ (fv x).2 ≤ 1024 := ⟨k1, by unfold fv; omega, by unfold fv; omega⟩
  refine ⟨?_, k3⟩
  have hl : (limbs (fv x).1.natAbs).length ≤ 2 := (limbs_le_bits _ 2).2 (Nat.lt_of_lt_of_le k3.1 (Nat.pow_le_pow_right (by omega) (by omega)))
  unfold bndB dyB
  exact decide_eq_true ⟨by omega, by omega, by omega⟩
end Go.Ulp

set_option linter.unusedVariables false
set_option linter.unusedSimpArgs false
namespace Go.Ulp
open Go.RowKit
/-- what the loop holds -/
def AS (L : List Nat) (i : Nat) (inf : Int) (cl nn : Bool) (ng ps : Nat) (S : Int) : Prop :=
  inf = infTo L i ∧ cl = clashTo L i ∧ nn = anyTo isNan L i ∧ ng = cntTo mZer L i ∧ ps = cntTo pZer L i ∧ S = sumTo L i
theorem AS.start (L : List Nat) : AS L 0 0 false false 0 0 0 := ⟨rfl, rfl, rfl, rfl, rfl, rfl⟩
theorem AS.nan {L : List Nat} {i : Nat} {inf : Int} {cl nn : Bool} {ng ps : Nat} {S : Int} (h : AS L i inf cl nn ng ps S) (hc : classOf (lb L i) = 5) : AS L (i + 1) inf cl true ng ps S := by
  obtain ⟨a, b, c, d, e, f⟩ := h
  unfold AS infTo clashTo anyTo cntTo sumTo mZer pZer isInf isNan isZer uV
  rw [hc]
  simp [← a, ← b, ← d, ← e, ← f]
  exact ⟨d, e⟩
theorem AS.inf {L : List Nat} {i : Nat} {inf : Int} {cl nn : Bool} {ng ps : Nat} {S : Int} (h : AS L i inf cl nn ng ps S) (hc : classOf (lb L i) = 4) : AS L (i + 1) (lb L i) (cl || (decide (inf ≠ 0) && decide (inf ≠ lb L i))) nn ng ps S := by
  obtain ⟨a, b, c, d, e, f⟩ := h
  subst a b c d e f
  unfold AS
  rw [show infTo L (i + 1) = if isInf (lb L i) then lb L i else infTo L i from rfl, show clashTo L (i + 1) = if isInf (lb L i) then clashTo L i || (decide (infTo L i ≠ 0) && decide (infTo L i ≠ lb L i)) else clashTo L i from rfl,
    show anyTo isNan L (i + 1) = (anyTo isNan L i || isNan (lb L i)) from rfl, show cntTo mZer L (i + 1) = cntTo mZer L i + (if mZer (lb L i) then 1 else 0) from rfl, show cntTo pZer L (i + 1) = cntTo pZer L i + (if pZer (lb L i) then 1 else 0) from rfl, show sumTo L (i + 1) = sumTo L i + uV (lb L i) from rfl]
  unfold mZer pZer isInf isNan isZer uV
  rw [hc]
  simp
theorem AS.zer {L : List Nat} {i : Nat} {inf : Int} {cl nn : Bool} {ng ps : Nat} {S : Int} (h : AS L i inf cl nn ng ps S) (hc : classOf (lb L i) = 1) (hu : uV (lb L i) = 0) :
    AS L (i + 1) inf cl nn (ng + (if negB (lb L i) then 1 else 0)) (ps + (if negB (lb L i) then 0 else 1)) S := by
  obtain ⟨a, b, c, d, e, f⟩ := h
  subst a b c d e f
  unfold AS
  rw [show infTo L (i + 1) = if isInf (lb L i) then lb L i else infTo L i from rfl, show clashTo L (i + 1) = if isInf (lb L i) then clashTo L i || (decide (infTo L i ≠ 0) && decide (infTo L i ≠ lb L i)) else clashTo L i from rfl,
    show anyTo isNan L (i + 1) = (anyTo isNan L i || isNan (lb L i)) from rfl, show cntTo mZer L (i + 1) = cntTo mZer L i + (if mZer (lb L i) then 1 else 0) from rfl, show cntTo pZer L (i + 1) = cntTo pZer L i + (if pZer (lb L i) then 1 else 0) from rfl, show sumTo L (i + 1) = sumTo L i + uV (lb L i) from rfl]
  rw [hu]
  unfold mZer pZer isInf isNan isZer
  rw [hc]
  cases negB (lb L i) <;> simp
theorem AS.val {L : List Nat} {i : Nat} {inf : Int} {cl nn : Bool} {ng ps : Nat} {S : Int} (h : AS L i inf cl nn ng ps S) (h5 : classOf (lb L i) ≠ 5) (h4 : classOf (lb L i) ≠ 4) (h1 : classOf (lb L i) ≠ 1) :
    AS L (i + 1) inf cl nn ng ps (S + uV (lb L i)) := by
  obtain ⟨a, b, c, d, e, f⟩ := h
  subst a b c d e f
  unfold AS
  rw [show infTo L (i + 1) = if isInf (lb L i) then lb L i else infTo L i from rfl, show clashTo L (i + 1) = if isInf (lb L i) then clashTo L i || (decide (infTo L i ≠ 0) && decide (infTo L i ≠ lb L i)) else clashTo L i from rfl,
    show anyTo isNan L (i + 1) = (anyTo isNan L i || isNan (lb L i)) from rfl, show cntTo mZer L (i + 1) = cntTo mZer L i + (if mZer (lb L i) then 1 else 0) from rfl, show cntTo pZer L (i + 1) = cntTo pZer L i + (if pZer (lb L i) then 1 else 0) from rfl, show sumTo L (i + 1) = sumTo L i + uV (lb L i) from rfl]
  unfold mZer pZer isInf isNan isZer
  have e5 : (classOf (lb L i) == 5) = false := beq_eq_false_iff_ne.2 h5
  have e4 : (classOf (lb L i) == 4) = false := beq_eq_false_iff_ne.2 h4
  have e1 : (classOf (lb L i) == 1) = false := beq_eq_false_iff_ne.2 h1
  rw [e5, e4, e1]
  simp
section
variable {L : List Nat} {inf : Int} {cl nn : Bool} {ng ps : Nat} {S : Int} {mode : Int}
theorem AS.sNan (hL : ∀ j, lb L j < 18446744073709551616) (h : AS L L.length inf cl nn ng ps S) : Go.Ulp.sNan L = (nn || cl) := by
  obtain ⟨a, b, c, d, e, f⟩ := h
  unfold Go.Ulp.sNan
  rw [c, b]
  rcases inf_state L hL L.length with ⟨x, y, z, t⟩ | ⟨x, y, t⟩ | ⟨x, y, t⟩
  · rw [t, y, z]; rfl
  · rw [t, y]; simp
  · rw [t, y]; simp
theorem AS.sInf (hL : ∀ j, lb L j < 18446744073709551616) (h : AS L L.length inf cl nn ng ps S) : Go.Ulp.sInf L = decide (inf ≠ 0) := by
  obtain ⟨a, b, c, d, e, f⟩ := h
  unfold Go.Ulp.sInf
  rw [a]
  rcases inf_state L hL L.length with ⟨x, y, z, t⟩ | ⟨x, y, t⟩ | ⟨x, y, t⟩
  · rw [x, y, z]; rfl
  · rw [x, y]; simp
  · rw [x, y]; simp
theorem AS.infX (hL : ∀ j, lb L j < 18446744073709551616) (h : AS L L.length inf cl nn ng ps S) (hc : cl = false) (hi : inf ≠ 0) : inf = if anyTo mInf L L.length then 18442240474082181120 else 9218868437227405312 := by
  obtain ⟨a, b, c, d, e, f⟩ := h
  rcases inf_state L hL L.length with ⟨x, y, z, t⟩ | ⟨x, y, t⟩ | ⟨x, y, t⟩
  · exact absurd (a.trans x) hi
  · rw [← t, ← b, hc]; rw [a, x]; rfl
  · rw [y]; rw [a, x]; rfl
theorem AS.ansNan (hL : ∀ j, lb L j < 18446744073709551616) (h : AS L L.length inf cl nn ng ps S) (hb : (nn || cl) = true) : sumX L mode = 9221120237041090560 ∧ sumC L mode = false := by
  unfold sumX sumC; rw [h.sNan hL, hb]; exact ⟨rfl, rfl⟩
theorem AS.ansInf (hL : ∀ j, lb L j < 18446744073709551616) (h : AS L L.length inf cl nn ng ps S) (hb : (nn || cl) = false) (hi : inf ≠ 0) : sumX L mode = inf ∧ sumC L mode = false := by
  have hc : cl = false := by cases cl; rfl; rw [Bool.or_true] at hb; cases hb
  unfold sumX sumC; rw [h.sNan hL, hb, h.sInf hL, decide_eq_true hi]; exact ⟨(h.infX hL hc hi).symm, rfl⟩
theorem AS.ansNum (hL : ∀ j, lb L j < 18446744073709551616) (h : AS L L.length inf cl nn ng ps S) (hb : (nn || cl) = false) (hi : inf = 0) (hS : S ≠ 0) : sumX L mode = rX (nrm S (-1074)) mode ∧ sumC L mode = rC (nrm S (-1074)) mode := by
  have e := h.2.2.2.2.2
  unfold sumX sumC sDy; rw [h.sNan hL, hb, h.sInf hL, decide_eq_false (by simpa using hi), ← e, if_pos hS, if_pos hS]; exact ⟨rfl, rfl⟩
theorem AS.ansPos (hL : ∀ j, lb L j < 18446744073709551616) (h : AS L L.length inf cl nn ng ps S) (hb : (nn || cl) = false) (hi : inf = 0) (hS : S = 0) (hp : ps = L.length) : sumX L mode = 0 ∧ sumC L mode = false := by
  have e := h.2.2.2.2.2
  have e2 := h.2.2.2.2.1
  unfold sumX sumC; rw [h.sNan hL, hb, h.sInf hL, decide_eq_false (by simpa using hi), ← e, if_neg (not_not_intro hS), if_neg (not_not_intro hS), ← e2, if_pos hp]; exact ⟨rfl, rfl⟩
theorem AS.ansNeg (hL : ∀ j, lb L j < 18446744073709551616) (h : AS L L.length inf cl nn ng ps S) (hb : (nn || cl) = false) (hi : inf = 0) (hS : S = 0) (hp : ps ≠ L.length) (hn : ng = L.length) : sumX L mode = 9223372036854775808 ∧ sumC L mode = false := by
  have e := h.2.2.2.2.2
  have e2 := h.2.2.2.2.1
  have e3 := h.2.2.2.1
  unfold sumX sumC; rw [h.sNan hL, hb, h.sInf hL, decide_eq_false (by simpa using hi), ← e, if_neg (not_not_intro hS), if_neg (not_not_intro hS), ← e2, if_neg hp, ← e3, if_pos hn]; exact ⟨rfl, rfl⟩
theorem AS.ansNone (hL : ∀ j, lb L j < 18446744073709551616) (h : AS L L.length inf cl nn ng ps S) (hb : (nn || cl) = false) (hi : inf = 0) (hS : S = 0) (hp : ps ≠ L.length) (hn : ng ≠ L.length) : sumX L mode = sgb (mode == 2) ∧ sumC L mode = false := by
  have e := h.2.2.2.2.2
  have e2 := h.2.2.2.2.1
  have e3 := h.2.2.2.1
  unfold sumX sumC sgb; rw [h.sNan hL, hb, h.sInf hL, decide_eq_false (by simpa using hi), ← e, if_neg (not_not_intro hS), if_neg (not_not_intro hS), ← e2, if_neg hp, ← e3, if_neg hn]
  refine ⟨?_, rfl⟩
  by_cases m : mode = 2
  · rw [if_pos m, beq_iff_eq.2 m]; rfl
  · rw [if_neg m, beq_eq_false_iff_ne.2 m]; rfl
end
theorem sumD_bd (A : Nat) (hA : A = 2298) (L : List Nat) (hL : ∀ j, lb L j < 18446744073709551616) (i : Nat) (hi : i ≤ 200) : (nrm (sumTo L i) (-1074)).1.natAbs < 2 ^ A ∧ -1074 ≤ (nrm (sumTo L i) (-1074)).2 ∧ (nrm (sumTo L i) (-1074)).2 ≤ 4000 := by
  have h := sumTo_bd 2098 (Nat.le_refl _) L hL i
  have h2 := Nat.lt_of_lt_of_le h (Nat.pow_le_pow_right (by omega) (show 2098 + i ≤ A by omega))
  obtain ⟨k1, k2⟩ := nrm_bd (sumTo L i) (-1074) A h2
  exact ⟨k1, by rcases k2 with k | k <;> omega, by rcases k2 with k | k <;> omega⟩
end Go.Ulp
namespace Go.Proofs.YtfphmlmgjhebjaaGreatDoor
open Go.RowKit Go.Ulp
set_option linter.unusedVariables false
set_option linter.unusedSimpArgs false
set_option maxHeartbeats 2000000
set_option maxRecDepth 100000
theorem zeroS_any (neg : Bool) (w : World) : Calls Tryz.prog 145 #[.bool neg] w fun e w' => e = .returned (.int .u64 (sgb neg)) ∧ w = w' := by
  cases neg
  · go_enter Tryz.func145, Tryz.ntmps145
    go_wp2_with fail
    go_ret
    exact ⟨rfl, rfl⟩
  · go_enter Tryz.func145, Tryz.ntmps145
    go_wp2_with fail
    go_ret
    exact ⟨rfl, rfl⟩
theorem sumAll_any (ao : Option Addr) (cap : Nat) (L : List Nat) (mode : Int) (w : World) (h : Ns .u64 w ao cap L) (hL : ∀ j, lb L j < 18446744073709551616) (hlen : L.length ≤ 200) (hT : Tab 1 w) :
    Calls Tryz.prog 79 #[.slice ao L.length cap, .int .i64 mode] w (RetX w (sumX L mode) (sumC L mode)) := by
  have hNL := h
  obtain ⟨h1, h2, h3⟩ := h
  unfold maxLen at h2
  obtain ⟨N, hN⟩ : ∃ N, N = L.length := ⟨_, rfl⟩
  have CL := hid (fun j w => class_any (lb L j) (lb_nonneg _ _) (hL j) w)
  have VA := hid (fun j w t => value_any (lb L j) (lb_nonneg _ _) (hL j) w t)
  have HL := hid hL
  have HL0 := hid hL
  have FV := hid (fun j (h : classOf (lb L j) < 4) => fv_uV (lb L j) (lb_nonneg _ _) (hL j) h)
  have UZ := hid (fun j (h : classOf (lb L j) = 1) => uV_zer (lb L j) (lb_nonneg _ _) (hL j) h)
  have ZB := hid (fun j (h : classOf (lb L j) = 1) => zer_bits (lb L j) (lb_nonneg _ _) (hL j) h)
  have CB := hid (fun j => class_bd (lb L j))
  obtain ⟨A, hA⟩ : ∃ A : Nat, A = 2298 := ⟨_, rfl⟩
  have SB := hid (fun i hi => sumD_bd A hA L hL i hi)
  obtain ⟨K, hK⟩ : ∃ K : Nat, K = 100 := ⟨_, rfl⟩
  have LB := hid (fun (M : Nat) (h : M < 2 ^ A) => (limbs_le_bits M K).2 (Nat.lt_of_lt_of_le h (Nat.pow_le_pow_right (by omega) (by omega))))
  have HT := hid hT
  have HNL := hid hNL
  have yb0 := below_alloc w (.cells #[.bool false, .slice none 0 0, .int .i64 0] 67)
  have zR0 : DV 67 (w.alloc (.cells #[.bool false, .slice none 0 0, .int .i64 0] 67)) w.heap.size (nrm 0 (-1074)) := ⟨none, 0, QL.made rfl, Ns.nil⟩
  clear hL hT hA hNL
  go_enter Tryz.func79, Tryz.ntmps79
  go_wp2_with fail
  go_loopw [6, 7, 8, 9, 10, 13, 16] (fun s6 s7 s8 s9 s10 _ s16 wr => ∃ (i : Nat) (inf : Int) (cl nn : Bool) (ng ps : Nat) (S : Int), s16 = .int .i64 (i : Int) ∧ i ≤ L.length ∧ s6 = .int .u64 inf ∧ s7 = .bool cl ∧ s8 = .bool nn ∧ s9 = .int .i64 (ng : Int) ∧ s10 = .int .i64 (ps : Int) ∧ AS L i inf cl nn ng ps S ∧ DV 67 wr w.heap.size (nrm S (-1074)) ∧ Below w.heap.size w wr) (fun _ _ _ _ _ _ s16 _ => (L.length - (intOf s16).toNat))
  case atStart => exact ⟨0, 0, false, false, 0, 0, 0, rfl, by omega, rfl, rfl, rfl, rfl, rfl, AS.start L, zR0, yb0⟩
  case round =>
    obtain ⟨i, inf, cl, nn, ng, ps, S, rfl, hi, rfl, rfl, rfl, rfl, rfl, hAS, hDV, yb⟩ := hrel
    have HAS := hid hAS
    have HDV := hid hDV
    have c1 := cnt_le mZer L i
    have c2 := cnt_le pZer L i
    have n1 : ng ≤ i := by rw [hAS.2.2.2.1]; exact c1
    have n2 : ps ≤ i := by rw [hAS.2.2.2.2.1]; exact c2
    have HS := hid hAS.2.2.2.2.2
    clear hAS hDV c1 c2 h3 hN zR0 yb0
    by_cases hi2 : (i : Int) < (L.length : Int)
    · obtain ⟨b0, o0, rfl, hc0⟩ := HNL.out.2.2 (by omega)
      have k0 := (yb.cell (p := ⟨b0, o0 + i, none⟩) (World.block_lt_of_cell? _ _ (hc0 i (by omega)))).trans (hc0 i (by omega))
      have C0 := hid (CL.out i)
      have V0 := hid (VA.out i)
      have FV0 := hid (FV.out i)
      have UZ0 := hid (UZ.out i)
      have ZB0 := hid (ZB.out i)
      have cb := CB.out i
      have hx0 : 0 ≤ lb L i := lb_nonneg L i
      have SB0 := hid (SB.out i (by omega))
      obtain ⟨x, hx⟩ : ∃ x, x = lb L i := ⟨_, rfl⟩
      have HX := hid hx
      rw [← hx] at k0 C0 V0 FV0 UZ0 ZB0 cb hx0
      clear hx hc0 CL VA FV UZ ZB CB SB HL
      by_cases h5 : classOf x = 5
      · have H5 := hid h5
        rw [h5] at C0
        clear h5 cb
        go_wp2_with (go_at_call 33; (with_reducible refine (C0.out _).mono ?_); rintro en w1 ⟨rfl, rfl⟩)
        go_roundw
        case rel => exact ⟨i + 1, inf, cl, true, ng, ps, S, by go_num, by omega, rfl, rfl, rfl, rfl, rfl, HAS.out.nan (by rw [← HX.out]; exact H5.out), HDV.out, yb⟩
        case measure => simp [intOf]; omega
      by_cases h4 : classOf x = 4
      · have H4 := hid h4
        have HCL := hid (HAS.out.inf (by rw [← HX.out]; exact h4))
        rw [h4] at C0
        clear h4 h5 cb
        cases cl
        · by_cases hz : inf = 0
          · have hz2 : (inf != 0) = false := by rw [hz]; rfl
            have HZ := hid hz
            clear hz
            go_wp2_with (go_at_call 33; (with_reducible refine (C0.out _).mono ?_); rintro en w1 ⟨rfl, rfl⟩)
            go_roundw
            case rel => exact ⟨i + 1, x, false, nn, ng, ps, S, by go_num, by omega, rfl, rfl, rfl, rfl, rfl, by
              have h := HCL.out
              rw [← HX.out, HZ.out] at h
              simpa using h, HDV.out, yb⟩
            case measure => simp [intOf]; omega
          · have hz2 : (inf != 0) = true := bne_iff_ne.2 hz
            have HZ := hid hz
            clear hz
            by_cases hq : inf = x
            · have hq2 : (inf != x) = false := by rw [hq]; simp
              have HQ := hid hq
              clear hq
              go_wp2_with (go_at_call 33; (with_reducible refine (C0.out _).mono ?_); rintro en w1 ⟨rfl, rfl⟩)
              go_roundw
              case rel => exact ⟨i + 1, x, false, nn, ng, ps, S, by go_num, by omega, rfl, rfl, rfl, rfl, rfl, by
                have h := HCL.out
                rw [← HX.out, decide_eq_false (not_not_intro HQ.out), Bool.and_false, Bool.or_false] at h
                exact h, HDV.out, yb⟩
              case measure => simp [intOf]; omega
            · have hq2 : (inf != x) = true := bne_iff_ne.2 hq
              have HQ := hid hq
              clear hq
              go_wp2_with (go_at_call 33; (with_reducible refine (C0.out _).mono ?_); rintro en w1 ⟨rfl, rfl⟩)
              go_roundw
              case rel => exact ⟨i + 1, x, true, nn, ng, ps, S, by go_num, by omega, rfl, rfl, rfl, rfl, rfl, by
                have h := HCL.out
                rw [← HX.out, decide_eq_true HQ.out, decide_eq_true HZ.out] at h
                exact h, HDV.out, yb⟩
              case measure => simp [intOf]; omega
        · go_wp2_with (go_at_call 33; (with_reducible refine (C0.out _).mono ?_); rintro en w1 ⟨rfl, rfl⟩)
          go_roundw
          case rel => exact ⟨i + 1, x, true, nn, ng, ps, S, by go_num, by omega, rfl, rfl, rfl, rfl, rfl, by
            have h := HCL.out
            rw [← HX.out, Bool.true_or] at h
            exact h, HDV.out, yb⟩
          case measure => simp [intOf]; omega
      by_cases h1 : classOf x = 1
      · have HZ := hid (HAS.out.zer (by rw [← HX.out]; exact h1) (by rw [← HX.out]; exact UZ0.out h1))
        have hzb := ZB0.out h1
        rw [h1] at C0
        rw [← HX.out] at HZ
        clear h1 h4 h5 cb
        cases hn : negB x
        · have HN := hid hn
          rw [hn, if_neg (by simp)] at hzb
          clear hn
          subst hzb
          go_wp2_with (go_at_call 33; (with_reducible refine (C0.out _).mono ?_); rintro en w1 ⟨rfl, rfl⟩)
          go_roundw
          case rel => exact ⟨i + 1, inf, cl, nn, ng, ps + 1, S, by go_num, by omega, rfl, rfl, rfl, rfl, by go_num, by
            have h := HZ.out
            rw [HN.out] at h
            exact h, HDV.out, yb⟩
          case measure => simp [intOf]; omega
        · have HN := hid hn
          rw [hn, if_pos rfl] at hzb
          clear hn
          subst hzb
          go_wp2_with (go_at_call 33; (with_reducible refine (C0.out _).mono ?_); rintro en w1 ⟨rfl, rfl⟩)
          go_roundw
          case rel => exact ⟨i + 1, inf, cl, nn, ng + 1, ps, S, by go_num, by omega, rfl, rfl, rfl, by go_num, rfl, by
            have h := HZ.out
            rw [HN.out] at h
            exact h, HDV.out, yb⟩
          case measure => simp [intOf]; omega
      · have HV := hid (HAS.out.val (by rw [← HX.out]; exact h5) (by rw [← HX.out]; exact h4) (by rw [← HX.out]; exact h1))
        have hlt : classOf x < 4 := by omega
        have hfv := FV0.out hlt
        rw [← HX.out] at HV
        obtain ⟨c, hc⟩ : ∃ c, c = classOf x := ⟨_, rfl⟩
        rw [← hc] at C0 h5 h4 h1
        have e5 : (c == 5) = false := beq_eq_false_iff_ne.2 h5
        have e4 : (c == 4) = false := beq_eq_false_iff_ne.2 h4
        have e1 : (c == 1) = false := beq_eq_false_iff_ne.2 h1
        have hbd := SB0.out
        rw [← HS.out] at hbd
        have hfb := fv_bd x hx0 (by rw [HX.out]; exact HL0.out i)
        have l1 := LB.out _ hbd.1
        have l2 : (limbs (fv x).1.natAbs).length ≤ 2 := (limbs_le_bits _ 2).2 (Nat.lt_of_lt_of_le hfb.2.1 (Nat.pow_le_pow_right (by omega) (by omega)))
        have PL := hid (fun v u w h0 h1 t => plusD_any v u (nrm S (-1074)) (fv x) w h0 h1 (by omega) (by omega) ⟨by omega, by omega⟩ ⟨by omega, by omega⟩ t)
        have HSD := hid (show addD (nrm S (-1074)) (fv x) = nrm (S + uV x) (-1074) by rw [hfv, addD_step])
        rw [HSD.out] at PL
        obtain ⟨am, cm, zD, hND⟩ := HDV.out
        have HVD := hid (fun w' (hb : Below wr.heap.size wr w') => (show VD w' (nrm S (-1074)) (.agg #[.bool (decide ((nrm S (-1074)).1 < 0)), .slice am (limbs (nrm S (-1074)).1.natAbs).length cm, .int .i64 (nrm S (-1074)).2]) from ⟨am, cm, rfl, hND.below hb⟩))
        generalize nrm S (-1074) = D at *
        clear hc h5 h4 h1 hlt hfv hbd hfb l1 l2 cb HDV hND FV0 UZ0 ZB0 LB SB0
        go_upto_region 8 with (go_at_call 33; (with_reducible refine (C0.out _).mono ?_); rintro en w1 ⟨rfl, rfl⟩)
        refine wp_region_grow 4 [22, 23, 24, 25] [Fact.is (.agg #[.bool (decide (D.1 < 0)), .slice am (limbs D.1.natAbs).length cm, .int .i64 D.2]), Fact.is (.int .u64 x), Fact.vd (fv x), Fact.vd (nrm (S + uV x) (-1074))] (by kernel_rfl) (by kernel_rfl) ⟨?o0, ?o1, ?o2, ?o3, trivial⟩ ?after
        case o0 => (refine StepOK.plain rfl ?_; intro ρ w1 R hρ hb hp hR; have e11 : ρ (.tmp 11) = .pointer (some ⟨w.heap.size, 0, none⟩) := hρ.tmp 11 rfl; obtain ⟨⟨j0, j1, -, -, -⟩, j2, -⟩ := zD.below hb; have hcon := hρ.con; have hfn := hρ.fn; clear hρ hp; unfold OpRun; go_simp; exact hR _ _ (Below.refl _ _) rfl)
        case o1 => (refine StepOK.plain rfl ?_; intro ρ w1 R hρ hb hp hR; have e13 : ρ (.tmp 13) = .int .u64 x := hρ.tmp 13 rfl; have hcon := hρ.con; have hfn := hρ.fn; clear hρ hp; unfold OpRun; go_simp; exact hR _ _ (Below.refl _ _) rfl)
        case o2 => (refine StepOK.plain rfl ?_; intro ρ w1 R hρ hb hp hR; have e23 : ρ (.tmp 23) = _ := hp 1 23 rfl rfl; have hcon := hρ.con; have hfn := hρ.fn; clear hρ hp; unfold OpRun; go_simp; (refine (V0.out _ (HT.out.below (below_trans yb hb))).mono ?_; rintro e wn ⟨v9, rfl, hv9, hbn⟩; exact ⟨_, rfl, hR _ _ hbn hv9⟩))
        case o3 => (refine StepOK.plain rfl ?_; intro ρ w1 R hρ hb hp hR; have e22 : ρ (.tmp 22) = _ := hp 0 22 rfl rfl; have f24 := hp 2 24 rfl rfl; have hcon := hρ.con; have hfn := hρ.fn; clear hρ hp; unfold OpRun; go_simp; (refine (PL.out _ _ _ (HVD.out _ hb) f24 (HT.out.below (below_trans yb hb))).mono ?_; rintro e wn ⟨v9, rfl, hv9, hbn⟩; exact ⟨_, rfl, hR _ _ hbn hv9⟩))
        case after =>
          intro u wn hb hf
          have f25 := hf 3 25 (by omega) rfl
          clear hf
          simp only [putAll, Act.put, List.setIfInBounds_toArray, List.set_cons_zero, List.set_cons_succ, List.drop_succ_cons, List.drop_zero, List.drop_nil]
          obtain ⟨am2, cm2, e25, hN2⟩ := f25
          rw [e25]
          have zD2 := zD.below hb
          have yb2 := below_trans yb hb
          obtain ⟨⟨j0, j1, g0, g1, hs2⟩, j2, g2⟩ := id zD2
          clear e25
          go_wp2_with fail
          go_roundw
          case rel => exact ⟨i + 1, inf, cl, nn, ng, ps, S + uV x, by go_num, by omega, rfl, rfl, rfl, rfl, rfl, HV.out, DV.put zD2 hN2 (by intro x h; cases h), Go.Ulp.Below.put3 yb2 (Nat.le_refl _) _ _ _⟩
          case measure => simp [intOf]; omega
    · have hie : i = L.length := by omega
      subst hie
      have HA1 := hid (fun hb => HAS.out.ansNan (mode := mode) HL.out hb)
      have HA2 := hid (fun hb hi => HAS.out.ansInf (mode := mode) HL.out hb hi)
      have HA3 := hid (fun hb hi hS => HAS.out.ansNum (mode := mode) HL.out hb hi hS)
      have HA4 := hid (fun hb hi hS hp => HAS.out.ansPos (mode := mode) HL.out hb hi hS hp)
      have HA5 := hid (fun hb hi hS hp hn => HAS.out.ansNeg (mode := mode) HL.out hb hi hS hp hn)
      have HA6 := hid (fun hb hi hS hp hn => HAS.out.ansNone (mode := mode) HL.out hb hi hS hp hn)
      have SB0 := hid (SB.out L.length hlen)
      clear HAS CL VA FV UZ ZB CB SB HL HNL
      cases nn
      · cases cl
        · by_cases hz : inf = 0
          · subst hz
            by_cases hS : S = 0
            · subst hS
              have hD := HDV.out
              rw [nrm_zero] at hD
              obtain ⟨am, cm, zD⟩ := hD.none_form
              obtain ⟨⟨j0, j1, -, -, -⟩, j2, -⟩ := id zD
              clear hD
              by_cases hp : ps = L.length
              · have HP := hid (HA4.out rfl rfl rfl hp)
                subst hp
                clear HA1 HA2 HA3 HA4 HA5 HA6
                go_wp2_with fail
                go_ret2
                exact ⟨ret2 HP.out.1.symm HP.out.2.symm, yb⟩
              · have hp2 : ((ps : Int) == (L.length : Int)) = false := beq_eq_false_iff_ne.2 (by omega)
                by_cases hq : ng = L.length
                · have HP := hid (HA5.out rfl rfl rfl hp hq)
                  subst hq
                  clear HA1 HA2 HA3 HA4 HA5 HA6 hp
                  go_wp2_with fail
                  go_ret2
                  exact ⟨ret2 HP.out.1.symm HP.out.2.symm, yb⟩
                · have hq2 : ((ng : Int) == (L.length : Int)) = false := beq_eq_false_iff_ne.2 (by omega)
                  have HP := hid (HA6.out rfl rfl rfl hp hq)
                  clear HA1 HA2 HA3 HA4 HA5 HA6 hp hq
                  go_wp2_with (go_at_call 145; (with_reducible refine (zeroS_any _ _).mono ?_); rintro en w1 ⟨rfl, rfl⟩)
                  go_ret2
                  exact ⟨ret2 HP.out.1.symm HP.out.2.symm, yb⟩
            · have HP := hid (HA3.out rfl rfl hS)
              have hbd := SB0.out
              rw [← HS.out] at hbd
              have l1 := LB.out _ hbd.1
              have NU := hid (fun v w h => numberD_any v (nrm S (-1074)) mode w h (by omega) ⟨by omega, by omega⟩ (nrm_isN _ _))
              have hpos : 0 < (limbs (nrm S (-1074)).1.natAbs).length := by
                have h9 := dy_len (nrm S (-1074))
                rw [nrm_zero_iff] at h9
                omega
              obtain ⟨am, cm, zD, hND⟩ := HDV.out
              have HVD := hid (show VD wr (nrm S (-1074)) (.agg #[.bool (decide ((nrm S (-1074)).1 < 0)), .slice am (limbs (nrm S (-1074)).1.natAbs).length cm, .int .i64 (nrm S (-1074)).2]) from ⟨am, cm, rfl, hND⟩)
              obtain ⟨⟨j0, j1, -, -, -⟩, j2, -⟩ := id zD
              generalize nrm S (-1074) = D at *
              generalize (limbs D.1.natAbs).length = ll at *
              clear HA1 HA2 HA3 HA4 HA5 HA6 hbd l1 hS HDV hND LB SB0
              go_wp2_with (go_at_call 86; (with_reducible refine (NU.out _ _ HVD.out).mono ?_); rintro en w1 ⟨rfl, hb1⟩)
              go_ret2
              exact ⟨ret2 HP.out.1.symm HP.out.2.symm, below_trans yb hb1⟩
          · have hz2 : (inf != 0) = true := bne_iff_ne.2 hz
            have HP := hid (HA2.out rfl hz)
            clear HA1 HA2 HA3 HA4 HA5 HA6 hz
            go_wp2_with fail
            go_ret2
            exact ⟨ret2 HP.out.1.symm HP.out.2.symm, yb⟩
        · have HP := hid (HA1.out rfl)
          clear HA1 HA2 HA3 HA4 HA5 HA6
          go_wp2_with fail
          go_ret2
          exact ⟨ret2 HP.out.1.symm HP.out.2.symm, yb⟩
      · have HP := hid (HA1.out rfl)
        clear HA1 HA2 HA3 HA4 HA5 HA6
        go_wp2_with fail
        go_ret2
        exact ⟨ret2 HP.out.1.symm HP.out.2.symm, yb⟩
end Go.Proofs.YtfphmlmgjhebjaaGreatDoor

set_option linter.unusedVariables false
set_option linter.unusedSimpArgs false
namespace Go.Ulp
open Go.RowKit
/-- a variable of type Q -/
def QV (t e : TypeId) (w : World) (g : Nat) (D : Dy) (A T : Nat) : Prop :=
  ∃ (x : Int) (n : Nat) (ao : Option Addr) (cap : Nat), QL t w g (zneg x) (.slice ao (zl x).length cap) (n : Int) ∧ Nz e w ao cap (zl x) ∧ nrm x (-(n : Int)) = D ∧ x.natAbs < 2 ^ A ∧ n ≤ T
theorem QV.below {t e : TypeId} {w w' : World} {g : Nat} {D : Dy} {A T : Nat} (h : QV t e w g D A T) (hb : Below w.heap.size w w') : QV t e w' g D A T := by
  obtain ⟨x, n, ao, cap, h1, h2, h3⟩ := h
  exact ⟨x, n, ao, cap, h1.below hb, h2.below hb, h3⟩
theorem QV.weak {t e : TypeId} {w : World} {g : Nat} {D : Dy} {A T A' T' : Nat} (h : QV t e w g D A T) (hA : A ≤ A') (hT : T ≤ T') : QV t e w g D A' T' := by
  obtain ⟨x, n, ao, cap, h1, h2, h3, h4, h5⟩ := h
  exact ⟨x, n, ao, cap, h1, h2, h3, abs_weak h4 hA, by omega⟩
theorem QV.zero {t e : TypeId} {w : World} (A T : Nat) : QV t e (w.alloc (.cells #[.bool false, .slice none 0 0, .int .i64 0] t)) w.heap.size (0, 0) A T :=
  ⟨0, 0, none, 0, QL.made rfl, Nz.nil' none 0 (by unfold maxLen; omega), nrm_zero _, Nat.two_pow_pos A, Nat.zero_le _⟩
/-- what the loop holds -/
def BS (L : List Nat) (i : Nat) (pl mi nn : Bool) (zs sg : Nat) (S : Int) : Prop :=
  pl = anyTo pInf L i ∧ mi = anyTo mInf L i ∧ nn = anyTo isNan L i ∧ zs = cntTo isZer L i ∧ sg = cntTo mZer L i ∧ S = sumTo L i
theorem BS.start (L : List Nat) : BS L 0 false false false 0 0 0 := ⟨rfl, rfl, rfl, rfl, rfl, rfl⟩
section
variable {L : List Nat} {pl mi nn : Bool} {zs sg : Nat} {S : Int} {mode : Int}
theorem BS.ansNan (h : BS L L.length pl mi nn zs sg S) (hb : (nn || (pl && mi)) = true) : sumX L mode = 9221120237041090560 ∧ sumC L mode = false := by
  obtain ⟨a, b, c, d, e, f⟩ := h
  have k : sNan L = true := by unfold sNan; rw [← a, ← b, ← c]; exact hb
  unfold sumX sumC; rw [k]; exact ⟨rfl, rfl⟩
theorem BS.ansInf (h : BS L L.length pl mi nn zs sg S) (hb : (nn || (pl && mi)) = false) (hi : (pl || mi) = true) : sumX L mode = 9218868437227405312 + sgb mi ∧ sumC L mode = false := by
  obtain ⟨a, b, c, d, e, f⟩ := h
  have k : sNan L = false := by unfold sNan; rw [← a, ← b, ← c]; exact hb
  have k2 : sInf L = true := by unfold sInf; rw [← a, ← b]; exact hi
  unfold sumX sumC; rw [k, k2, ← b]
  refine ⟨?_, rfl⟩
  cases mi <;> rfl
theorem BS.none (h : BS L L.length pl mi nn zs sg S) (hb : (nn || (pl && mi)) = false) (hi : (pl || mi) = false) : sNan L = false ∧ sInf L = false := by
  obtain ⟨a, b, c, d, e, f⟩ := h
  exact ⟨by unfold sNan; rw [← a, ← b, ← c]; exact hb, by unfold sInf; rw [← a, ← b]; exact hi⟩
theorem BS.ansNum (h : BS L L.length pl mi nn zs sg S) (hb : (nn || (pl && mi)) = false) (hi : (pl || mi) = false) (hS : S ≠ 0) : sumX L mode = rX (nrm S (-1074)) mode ∧ sumC L mode = rC (nrm S (-1074)) mode := by
  obtain ⟨k, k2⟩ := h.none hb hi
  have e := h.2.2.2.2.2
  unfold sumX sumC sDy; rw [k, k2, ← e, if_pos hS, if_pos hS]; exact ⟨rfl, rfl⟩
end
end Go.Ulp
namespace Go.Proofs.YtfphmlmgjhebjaaGreatDoor
open Go.RowKit Go.Ulp
set_option linter.unusedVariables false
set_option linter.unusedSimpArgs false
set_option maxHeartbeats 2000000
set_option maxRecDepth 100000
end Go.Proofs.YtfphmlmgjhebjaaGreatDoor

set_option linter.unusedVariables false
set_option linter.unusedSimpArgs false
namespace Go.Ulp
open Go.RowKit
/-- what is told of a mode -/
def mdX (mode x : Int) : Int := if knownB mode = true then x else 0
def mdC (mode : Int) (c : Bool) : Bool := if knownB mode = true then c else false
def mdE (mode : Int) : Int := if knownB mode = true then 0 else 1
theorem md_yes {mode : Int} (h : knownB mode = true) (x : Int) (c : Bool) : mdX mode x = x ∧ mdC mode c = c ∧ mdE mode = 0 := by
  unfold mdX mdC mdE; rw [if_pos h, if_pos h, if_pos h]; exact ⟨rfl, rfl, rfl⟩
theorem md_no {mode : Int} (h : knownB mode = false) (x : Int) (c : Bool) : mdX mode x = 0 ∧ mdC mode c = false ∧ mdE mode = 1 := by
  unfold mdX mdC mdE; rw [h]; exact ⟨rfl, rfl, rfl⟩
/-- a new list of two numbers -/
theorem ns2 (w : World) (t : TypeId) (a b : Nat) : Ns .u64 (w.alloc (.cells #[.int .u64 (a : Int), .int .u64 (b : Int)] t)) (some ⟨w.heap.size, 0, none⟩) 2 [a, b] := by
  refine ⟨by simp, by unfold maxLen; omega, fun _ => ⟨w.heap.size, 0, rfl, fun i hi => ?_⟩⟩
  have hi6 : i < 2 := by simpa using hi
  obtain rfl | rfl : i = 0 ∨ i = 1 := by omega
  all_goals (rw [World.cell?_alloc_at (hn := rfl)]; rfl)
theorem two_lt (a b : Nat) (ha : a < 18446744073709551616) (hb : b < 18446744073709551616) : ∀ j, lb [a, b] j < 18446744073709551616 := by
  intro j
  by_cases hj : j < 2
  · obtain rfl | rfl : j = 0 ∨ j = 1 := by omega
    · show (a : Int) < _; omega
    · show (b : Int) < _; omega
  · unfold lb; rw [getD_out _ _ (by simp; omega)]; omega
/-- a cell that holds a value -/
def CV (w : World) (g : Nat) (v : Value) : Prop := w.cell? ⟨g, 0, none⟩ = some v ∧ w.frozen? ⟨g, 0, none⟩ = false
theorem CV.below {w w' : World} {g : Nat} {v : Value} (h : CV w g v) (hb : Below w.heap.size w w') : CV w' g v :=
  ⟨(hb.cell (World.block_lt_of_cell? _ _ h.1)).trans h.1, (hb.frozen (World.block_lt_of_cell? _ _ h.1)).trans h.2⟩
theorem CV.made {w : World} {v : Value} {t : TypeId} : CV (w.alloc (.cells #[v] t)) w.heap.size v := by
  constructor
  · rw [World.cell?_alloc_at (hn := rfl)]; rfl
  · simp
end Go.Ulp
namespace Go.Proofs.YtfphmlmgjhebjaaGreatDoor
open Go.RowKit Go.Ulp
set_option linter.unusedVariables false
set_option linter.unusedSimpArgs false
set_option maxHeartbeats 2000000
set_option maxRecDepth 100000
theorem sumAdd_any (a b : Nat) (ha : a < 18446744073709551616) (hb : b < 18446744073709551616) (mode : Int) (w : World) (hT : Tab 1 w) :
    Calls Tryz.prog 39 #[.int .u64 (a : Int), .int .u64 (b : Int), .int .i64 mode] w (RetX3 w (mdX mode (sumX [a, b] mode)) (mdC mode (sumC [a, b] mode)) (mdE mode)) := by
  have KN := hid (fun w => known_any mode w)
  have AL := hid (fun g w h t => sumAll_any (some ⟨g, 0, none⟩) 2 [a, b] mode w h (two_lt a b ha hb) (by simp) t)
  have N2 := hid (fun t => ns2 w t a b)
  have HT := hid hT
  have hl : [a, b].length = 2 := rfl
  rw [hl] at AL
  cases hk : knownB mode
  · obtain ⟨e1, e2, e3⟩ := md_no hk (sumX [a, b] mode) (sumC [a, b] mode)
    rw [e1, e2, e3]
    rw [hk] at KN
    clear e1 e2 e3 hk hT hl
    go_enter Tryz.func39, Tryz.ntmps39
    go_wp2_with (go_at_call 78; (with_reducible refine (KN.out _).mono ?_); rintro en w1 ⟨rfl, rfl⟩)
    refine bodyPost_ret (by simp [results, Tryz.results39, go_sem]; try rfl) rfl ?_
    exact ⟨rfl, Below.refl _ _⟩
  · obtain ⟨e1, e2, e3⟩ := md_yes hk (sumX [a, b] mode) (sumC [a, b] mode)
    rw [e1, e2, e3]
    rw [hk] at KN
    generalize sumX [a, b] mode = sx at *
    generalize sumC [a, b] mode = sc at *
    clear e1 e2 e3 hk hT hl
    go_enter Tryz.func39, Tryz.ntmps39
    go_wp2_with (first
      | (go_at_call 78; (with_reducible refine (KN.out _).mono ?_); rintro en w1 ⟨rfl, rfl⟩)
      | (go_at_call 79; (with_reducible refine (AL.out _ _ (N2.out _) (HT.out.below (below_alloc _ _))).mono ?_); rintro en w2 ⟨rfl, hb2⟩))
    refine bodyPost_ret (by simp [results, Tryz.results39, go_sem]; try rfl) rfl ?_
    exact ⟨rfl, below_trans (below_alloc _ _) hb2⟩
end Go.Proofs.YtfphmlmgjhebjaaGreatDoor

set_option linter.unusedVariables false
set_option linter.unusedSimpArgs false
namespace Go.Ulp
open Go.RowKit
theorem u64N {n : Nat} (h : n < 18446744073709551616) : U64 (n : Int) := ⟨by omega, by omega⟩
end Go.Ulp
namespace Go.Proofs.YtfphmlmgjhebjaaGreatDoor
open Go.RowKit Go.Ulp
set_option linter.unusedVariables false
set_option linter.unusedSimpArgs false
set_option maxHeartbeats 2000000
set_option maxRecDepth 100000
def addV (l h m i : Nat) : Array Value := if checkE l h m i = 0 then #[.int .u64 (plainOf (sumX [l, m] 2)), .int .u64 (plainOf (sumX [h, i] 1))] else #[.int .u64 0, .int .u64 0]
/-- two spans as arguments: their boxes and the result's cell; then the check -/
theorem spanAdd_any (l h m i : Nat) (hl : l < 18446744073709551616) (hh : h < 18446744073709551616) (hm : m < 18446744073709551616) (hi : i < 18446744073709551616) (w : World) (hT : Tab 1 w) :
    Calls Tryz.prog 7 #[.agg #[.int .u64 (l : Int), .int .u64 (h : Int)], .agg #[.int .u64 (m : Int), .int .u64 (i : Int)]] w fun e w' => e = .returned (.tuple #[.agg (addV l h m i), .int .i64 (checkE l h m i)]) ∧ Below w.heap.size w w' := by
  have A := hid (fun w => spanCheck2_any l h m i (u64N hl) (u64N hh) (u64N hm) (u64N hi) w)
  have S1 := hid (fun w t => sumAdd_any l m hl hm 2 w t)
  have S2 := hid (fun w t => sumAdd_any h i hh hi 1 w t)
  rw [show ∀ x, mdX 2 x = x from fun x => rfl, show ∀ x, mdC 2 x = x from fun x => rfl, show mdE 2 = 0 from rfl] at S1
  rw [show ∀ x, mdX 1 x = x from fun x => rfl, show ∀ x, mdC 1 x = x from fun x => rfl, show mdE 1 = 0 from rfl] at S2
  have HT := hid hT
  obtain ⟨E, hE⟩ : ∃ E, E = checkE l h m i := ⟨_, rfl⟩
  obtain ⟨X1, hX1⟩ : ∃ X, X = sumX [l, m] 2 := ⟨_, rfl⟩
  obtain ⟨X2, hX2⟩ : ∃ X, X = sumX [h, i] 1 := ⟨_, rfl⟩
  have hV : addV l h m i = if E = 0 then #[.int .u64 (plainOf X1), .int .u64 (plainOf X2)] else #[.int .u64 0, .int .u64 0] := by rw [hE, hX1, hX2]; rfl
  rw [hV, ← hE]
  rw [← hE] at A
  rw [← hX1] at S1
  rw [← hX2] at S2
  clear hT hX1 hX2 hV hl hh hm hi
  by_cases h0 : E = 0
  · subst h0
    clear hE
    go_enter Tryz.func7, Tryz.ntmps7
    go_wp2_with fail
    have yA : SV (((w.alloc (.cells #[.int .u64 l, .int .u64 h] 24)).alloc (.cells #[.int .u64 m, .int .u64 i] 24)).alloc (.cells #[.int .u64 0, .int .u64 0] 24)) w.heap.size l h := ((SV.made rfl).alloc _).alloc _
    have yB : SV (((w.alloc (.cells #[.int .u64 l, .int .u64 h] 24)).alloc (.cells #[.int .u64 m, .int .u64 i] 24)).alloc (.cells #[.int .u64 0, .int .u64 0] 24)) (w.heap.size + 1) m i := (SV.made (by first | omega | (simp; done) | (simp; omega))).alloc _
    have yC : SV (((w.alloc (.cells #[.int .u64 l, .int .u64 h] 24)).alloc (.cells #[.int .u64 m, .int .u64 i] 24)).alloc (.cells #[.int .u64 0, .int .u64 0] 24)) (w.heap.size + 1 + 1) 0 0 := SV.made (by first | omega | (simp; done) | (simp; omega))
    refine (A.out _).mono ?_
    rintro e w1 ⟨rfl, hb1⟩
    have yb : Below w.heap.size w w1 := by (repeat' (first | (with_reducible assumption) | (with_reducible exact Below.refl _ _) | (with_reducible refine below_al ?_ _) | (with_reducible refine below_drewN ?_ _) | (with_reducible refine Below.drew ?_) | (with_reducible refine Below.alloc ?_ ?_ _) | (with_reducible refine Below.setCell ?_ ?_ _) | (refine below_trans ?_ (by assumption)) | go_size))
    have zA := yA.below hb1
    have zB := yB.below hb1
    have zC := yC.below hb1
    clear yA yB yC hb1 A
    obtain ⟨a0, a1, -, -⟩ := id zA
    obtain ⟨b0, b1, -, -⟩ := id zB
    go_wp2_with (first
      | (go_at_call 39; first
          | ((with_reducible refine (S1.out _ (HT.out.below yb)).mono ?_); rintro en w2 ⟨rfl, hb2⟩; obtain ⟨a2, a3, -, -⟩ := zA.below hb2; obtain ⟨b2, b3, -, -⟩ := zB.below hb2)
          | ((with_reducible refine (S2.out _ (HT.out.below (below_trans yb hb2))).mono ?_); rintro en w3 ⟨rfl, hb3⟩; obtain ⟨k0, k1, f0, f1⟩ := (zC.below hb2).below hb3))
      | (go_at_call 40; (with_reducible refine (plain_any _ _).mono ?_); rintro en w4 ⟨rfl, rfl⟩))
    have yb3 := below_trans (below_trans yb hb2) hb3
    refine bodyPost_ret (by simp [results, Tryz.results7, go_sem, k0, k1]; try rfl) rfl ?_
    exact ⟨by first | rfl | simp, by (repeat' (first | (with_reducible assumption) | (with_reducible exact Below.refl _ _) | (with_reducible refine below_al ?_ _) | (with_reducible refine below_drewN ?_ _) | (with_reducible refine Below.drew ?_) | (with_reducible refine Below.alloc ?_ ?_ _) | (with_reducible refine Below.setCell ?_ ?_ _) | (refine below_trans ?_ (by assumption)) | go_size))⟩
  · have hb0 : (E == 0) = false := by simpa using h0
    have hb1 : (E != 0) = true := by simpa using h0
    clear hE
    go_enter Tryz.func7, Tryz.ntmps7
    go_wp2_with fail
    have yA : SV (((w.alloc (.cells #[.int .u64 l, .int .u64 h] 24)).alloc (.cells #[.int .u64 m, .int .u64 i] 24)).alloc (.cells #[.int .u64 0, .int .u64 0] 24)) w.heap.size l h := ((SV.made rfl).alloc _).alloc _
    have yB : SV (((w.alloc (.cells #[.int .u64 l, .int .u64 h] 24)).alloc (.cells #[.int .u64 m, .int .u64 i] 24)).alloc (.cells #[.int .u64 0, .int .u64 0] 24)) (w.heap.size + 1) m i := (SV.made (by first | omega | (simp; done) | (simp; omega))).alloc _
    have yC : SV (((w.alloc (.cells #[.int .u64 l, .int .u64 h] 24)).alloc (.cells #[.int .u64 m, .int .u64 i] 24)).alloc (.cells #[.int .u64 0, .int .u64 0] 24)) (w.heap.size + 1 + 1) 0 0 := SV.made (by first | omega | (simp; done) | (simp; omega))
    refine (A.out _).mono ?_
    rintro e w1 ⟨rfl, hb1⟩
    have yb : Below w.heap.size w w1 := by (repeat' (first | (with_reducible assumption) | (with_reducible exact Below.refl _ _) | (with_reducible refine below_al ?_ _) | (with_reducible refine below_drewN ?_ _) | (with_reducible refine Below.drew ?_) | (with_reducible refine Below.alloc ?_ ?_ _) | (with_reducible refine Below.setCell ?_ ?_ _) | (refine below_trans ?_ (by assumption)) | go_size))
    have zA := yA.below hb1
    have zB := yB.below hb1
    have zC := yC.below hb1
    clear yA yB yC hb1 A
    obtain ⟨k0, k1, f0, f1⟩ := id zC
    go_wp2_with fail
    refine bodyPost_ret (by simp [results, Tryz.results7, go_sem, k0, k1]; try rfl) rfl ?_
    exact ⟨by simp [h0], by (repeat' (first | (with_reducible assumption) | (with_reducible exact Below.refl _ _) | (with_reducible refine below_al ?_ _) | (with_reducible refine below_drewN ?_ _) | (with_reducible refine Below.drew ?_) | (with_reducible refine Below.alloc ?_ ?_ _) | (with_reducible refine Below.setCell ?_ ?_ _) | (refine below_trans ?_ (by assumption)) | go_size))⟩
def npl (x : Nat) : Nat := (plainOf (negOf (x : Int))).toNat
theorem npl_eq {x : Nat} (h : x < 18446744073709551616) : ((npl x : Nat) : Int) = plainOf (negOf (x : Int)) ∧ npl x < 18446744073709551616 := by
  have h0 : 0 ≤ plainOf (negOf (x : Int)) ∧ plainOf (negOf (x : Int)) < 18446744073709551616 := by
    unfold plainOf negOf
    split <;> (try split) <;> omega
  unfold npl
  omega
def subV (l h m i : Nat) : Array Value := if checkE l h m i = 0 then addV l h (npl i) (npl m) else #[.int .u64 0, .int .u64 0]
def subE (l h m i : Nat) : Int := if checkE l h m i = 0 then checkE l h (npl i) (npl m) else checkE l h m i
theorem spanSub_any (l h m i : Nat) (hl : l < 18446744073709551616) (hh : h < 18446744073709551616) (hm : m < 18446744073709551616) (hi : i < 18446744073709551616) (w : World) (hT : Tab 1 w) :
    Calls Tryz.prog 8 #[.agg #[.int .u64 (l : Int), .int .u64 (h : Int)], .agg #[.int .u64 (m : Int), .int .u64 (i : Int)]] w fun e w' => e = .returned (.tuple #[.agg (subV l h m i), .int .i64 (subE l h m i)]) ∧ Below w.heap.size w w' := by
  have A := hid (fun w => spanCheck2_any l h m i (u64N hl) (u64N hh) (u64N hm) (u64N hi) w)
  obtain ⟨p1, p2⟩ := npl_eq hi
  obtain ⟨q1, q2⟩ := npl_eq hm
  have N1 := hid (fun w => neg_any (i : Int) (by omega) (by omega) w)
  have N2 := hid (fun w => neg_any (m : Int) (by omega) (by omega) w)
  have P1 := hid (fun w => plain_any (negOf (i : Int)) w)
  have P2 := hid (fun w => plain_any (negOf (m : Int)) w)
  rw [← p1] at P1
  rw [← q1] at P2
  have AD := hid (fun w t => spanAdd_any l h (npl i) (npl m) hl hh p2 q2 w t)
  have HT := hid hT
  obtain ⟨E, hE⟩ : ∃ E, E = checkE l h m i := ⟨_, rfl⟩
  have hV : subV l h m i = if E = 0 then addV l h (npl i) (npl m) else #[.int .u64 0, .int .u64 0] := by rw [hE]; rfl
  have hW : subE l h m i = if E = 0 then checkE l h (npl i) (npl m) else E := by rw [hE]; rfl
  rw [hV, hW]
  rw [← hE] at A
  have hvs : ∃ x y : Int, addV l h (npl i) (npl m) = #[.int .u64 x, .int .u64 y] := by
    unfold addV; split
    · exact ⟨_, _, rfl⟩
    · exact ⟨_, _, rfl⟩
  obtain ⟨x, y, hxy⟩ := hvs
  rw [hxy] at AD ⊢
  obtain ⟨F, hF⟩ : ∃ F, F = checkE l h (npl i) (npl m) := ⟨_, rfl⟩
  rw [← hF] at AD ⊢
  generalize npl i = i' at *
  generalize npl m = m' at *
  generalize negOf (i : Int) = ni at *
  generalize negOf (m : Int) = nm at *
  clear hT hV hW hl hh hm hi p1 p2 q1 q2 hF hxy
  by_cases h0 : E = 0
  · subst h0
    clear hE
    go_enter Tryz.func8, Tryz.ntmps8
    go_wp2_with fail
    have yA : SV (((w.alloc (.cells #[.int .u64 l, .int .u64 h] 24)).alloc (.cells #[.int .u64 m, .int .u64 i] 24)).alloc (.cells #[.int .u64 0, .int .u64 0] 24)) w.heap.size l h := ((SV.made rfl).alloc _).alloc _
    have yB : SV (((w.alloc (.cells #[.int .u64 l, .int .u64 h] 24)).alloc (.cells #[.int .u64 m, .int .u64 i] 24)).alloc (.cells #[.int .u64 0, .int .u64 0] 24)) (w.heap.size + 1) m i := (SV.made (by first | omega | (simp; done) | (simp; omega))).alloc _
    have yC : SV (((w.alloc (.cells #[.int .u64 l, .int .u64 h] 24)).alloc (.cells #[.int .u64 m, .int .u64 i] 24)).alloc (.cells #[.int .u64 0, .int .u64 0] 24)) (w.heap.size + 1 + 1) 0 0 := SV.made (by first | omega | (simp; done) | (simp; omega))
    refine (A.out _).mono ?_
    rintro e w1 ⟨rfl, hb1⟩
    have yb : Below w.heap.size w w1 := by (repeat' (first | (with_reducible assumption) | (with_reducible exact Below.refl _ _) | (with_reducible refine below_al ?_ _) | (with_reducible refine below_drewN ?_ _) | (with_reducible refine Below.drew ?_) | (with_reducible refine Below.alloc ?_ ?_ _) | (with_reducible refine Below.setCell ?_ ?_ _) | (refine below_trans ?_ (by assumption)) | go_size))
    have zA := yA.below hb1
    have zB := yB.below hb1
    have zC := yC.below hb1
    clear yA yB yC hb1 A
    go_upto_region 4 with fail
    refine wp_region_grow 13 [14, 15, 16, 17, 18, 19, 20, 21, 22, 23, 24, 25, 26] [Fact.is (.agg #[.int .u64 (l : Int), .int .u64 (h : Int)]), Fact.is (.pointer (some ⟨w.heap.size + 1, 1, none⟩)), Fact.is (.int .u64 (i : Int)), Fact.is (.int .u64 ni), Fact.is (.int .u64 (i' : Int)), Fact.is (.pointer (some ⟨w.heap.size + 1, 0, none⟩)), Fact.is (.int .u64 (m : Int)), Fact.is (.int .u64 nm), Fact.is (.int .u64 (m' : Int)), Fact.is (.agg #[.int .u64 (i' : Int), .int .u64 (m' : Int)]), Fact.is (.tuple #[.agg #[.int .u64 x, .int .u64 y], .int .i64 F]), Fact.is (.agg #[.int .u64 x, .int .u64 y]), Fact.is (.int .i64 F)] (by kernel_rfl) (by kernel_rfl) ⟨?o0, ?o1, ?o2, ?o3, ?o4, ?o5, ?o6, ?o7, ?o8, ?o9, ?o10, ?o11, ?o12, trivial⟩ ?after
    case o0 => (refine StepOK.plain rfl ?_; intro ρ w1 R hρ hb hp hR; have e2 : ρ (.tmp 2) = .pointer (some ⟨w.heap.size, 0, none⟩) := hρ.tmp 2 rfl; obtain ⟨j0, j1, j2, j3⟩ := zA.below hb; have hcon := hρ.con; have hfn := hρ.fn; clear hρ hp; unfold OpRun; go_simp; exact hR _ _ (Below.refl _ _) rfl)
    case o1 => (refine StepOK.plain rfl ?_; intro ρ w1 R hρ hb hp hR; have e3 : ρ (.tmp 3) = .pointer (some ⟨w.heap.size + 1, 0, none⟩) := hρ.tmp 3 rfl; have hcon := hρ.con; have hfn := hρ.fn; clear hρ hp; unfold OpRun; go_simp; exact hR _ _ (Below.refl _ _) rfl)
    case o2 => (refine StepOK.plain rfl ?_; intro ρ w1 R hρ hb hp hR; have e15 : ρ (.tmp 15) = _ := hp 1 15 rfl rfl; obtain ⟨j0, j1, j2, j3⟩ := zB.below hb; have hcon := hρ.con; have hfn := hρ.fn; clear hρ hp; unfold OpRun; go_simp; exact hR _ _ (Below.refl _ _) rfl)
    case o3 => (refine StepOK.plain rfl ?_; intro ρ w1 R hρ hb hp hR; have e16 : ρ (.tmp 16) = _ := hp 2 16 rfl rfl; have hcon := hρ.con; have hfn := hρ.fn; clear hρ hp; unfold OpRun; go_simp; (refine (N1.out _).mono ?_; rintro e wn ⟨rfl, rfl⟩; exact ⟨_, rfl, hR _ _ (Below.refl _ _) rfl⟩))
    case o4 => (refine StepOK.plain rfl ?_; intro ρ w1 R hρ hb hp hR; have e17 : ρ (.tmp 17) = _ := hp 3 17 rfl rfl; have hcon := hρ.con; have hfn := hρ.fn; clear hρ hp; unfold OpRun; go_simp; (refine (P1.out _).mono ?_; rintro e wn ⟨rfl, rfl⟩; exact ⟨_, rfl, hR _ _ (Below.refl _ _) rfl⟩))
    case o5 => (refine StepOK.plain rfl ?_; intro ρ w1 R hρ hb hp hR; have e3 : ρ (.tmp 3) = .pointer (some ⟨w.heap.size + 1, 0, none⟩) := hρ.tmp 3 rfl; have hcon := hρ.con; have hfn := hρ.fn; clear hρ hp; unfold OpRun; go_simp; exact hR _ _ (Below.refl _ _) rfl)
    case o6 => (refine StepOK.plain rfl ?_; intro ρ w1 R hρ hb hp hR; have e19 : ρ (.tmp 19) = _ := hp 5 19 rfl rfl; obtain ⟨j0, j1, j2, j3⟩ := zB.below hb; have hcon := hρ.con; have hfn := hρ.fn; clear hρ hp; unfold OpRun; go_simp; exact hR _ _ (Below.refl _ _) rfl)
    case o7 => (refine StepOK.plain rfl ?_; intro ρ w1 R hρ hb hp hR; have e20 : ρ (.tmp 20) = _ := hp 6 20 rfl rfl; have hcon := hρ.con; have hfn := hρ.fn; clear hρ hp; unfold OpRun; go_simp; (refine (N2.out _).mono ?_; rintro e wn ⟨rfl, rfl⟩; exact ⟨_, rfl, hR _ _ (Below.refl _ _) rfl⟩))
    case o8 => (refine StepOK.plain rfl ?_; intro ρ w1 R hρ hb hp hR; have e21 : ρ (.tmp 21) = _ := hp 7 21 rfl rfl; have hcon := hρ.con; have hfn := hρ.fn; clear hρ hp; unfold OpRun; go_simp; (refine (P2.out _).mono ?_; rintro e wn ⟨rfl, rfl⟩; exact ⟨_, rfl, hR _ _ (Below.refl _ _) rfl⟩))
    case o9 => (refine StepOK.plain rfl ?_; intro ρ w1 R hρ hb hp hR; have e18 : ρ (.tmp 18) = _ := hp 4 18 rfl rfl; have e22 : ρ (.tmp 22) = _ := hp 8 22 rfl rfl; have hcon := hρ.con; have hfn := hρ.fn; clear hρ hp; unfold OpRun; go_simp; exact hR _ _ (Below.refl _ _) rfl)
    case o10 => (refine StepOK.plain rfl ?_; intro ρ w1 R hρ hb hp hR; have e14 : ρ (.tmp 14) = _ := hp 0 14 rfl rfl; have e23 : ρ (.tmp 23) = _ := hp 9 23 rfl rfl; have hcon := hρ.con; have hfn := hρ.fn; clear hρ hp; unfold OpRun; go_simp; (refine (AD.out _ (HT.out.below (below_trans yb hb))).mono ?_; rintro e wn ⟨rfl, hbn⟩; exact ⟨_, rfl, hR _ _ hbn rfl⟩))
    case o11 => (refine StepOK.plain rfl ?_; intro ρ w1 R hρ hb hp hR; have e24 : ρ (.tmp 24) = _ := hp 10 24 rfl rfl; have hcon := hρ.con; have hfn := hρ.fn; clear hρ hp; unfold OpRun; go_simp; exact hR _ _ (Below.refl _ _) rfl)
    case o12 => (refine StepOK.plain rfl ?_; intro ρ w1 R hρ hb hp hR; have e24 : ρ (.tmp 24) = _ := hp 10 24 rfl rfl; have hcon := hρ.con; have hfn := hρ.fn; clear hρ hp; unfold OpRun; go_simp; exact hR _ _ (Below.refl _ _) rfl)
    case after =>
      intro u wn hb hf
      have e25 : u 25 = _ := hf 11 25 (by omega) rfl
      have e26 : u 26 = _ := hf 12 26 (by omega) rfl
      clear hf
      simp only [putAll, Act.put, List.setIfInBounds_toArray, List.set_cons_zero, List.set_cons_succ, List.drop_succ_cons, List.drop_zero, List.drop_nil]
      rw [e25, e26]
      obtain ⟨k0, k1, f0, f1⟩ := zC.below hb
      have yb2 : Below w.heap.size w wn := below_trans yb hb
      clear zA zB zC hb yb
      go_wp2_with fail
      refine bodyPost_ret (by simp [results, Tryz.results8, go_sem, k0, k1]; try rfl) rfl ?_
      exact ⟨by first | rfl | simp, by (repeat' (first | (with_reducible assumption) | (with_reducible exact Below.refl _ _) | (with_reducible refine below_al ?_ _) | (with_reducible refine below_drewN ?_ _) | (with_reducible refine Below.drew ?_) | (with_reducible refine Below.alloc ?_ ?_ _) | (with_reducible refine Below.setCell ?_ ?_ _) | (refine below_trans ?_ (by assumption)) | go_size))⟩
  · have hb0 : (E == 0) = false := by simpa using h0
    have hb1 : (E != 0) = true := by simpa using h0
    clear hE
    go_enter Tryz.func8, Tryz.ntmps8
    go_wp2_with fail
    have yA : SV (((w.alloc (.cells #[.int .u64 l, .int .u64 h] 24)).alloc (.cells #[.int .u64 m, .int .u64 i] 24)).alloc (.cells #[.int .u64 0, .int .u64 0] 24)) w.heap.size l h := ((SV.made rfl).alloc _).alloc _
    have yB : SV (((w.alloc (.cells #[.int .u64 l, .int .u64 h] 24)).alloc (.cells #[.int .u64 m, .int .u64 i] 24)).alloc (.cells #[.int .u64 0, .int .u64 0] 24)) (w.heap.size + 1) m i := (SV.made (by first | omega | (simp; done) | (simp; omega))).alloc _
    have yC : SV (((w.alloc (.cells #[.int .u64 l, .int .u64 h] 24)).alloc (.cells #[.int .u64 m, .int .u64 i] 24)).alloc (.cells #[.int .u64 0, .int .u64 0] 24)) (w.heap.size + 1 + 1) 0 0 := SV.made (by first | omega | (simp; done) | (simp; omega))
    refine (A.out _).mono ?_
    rintro e w1 ⟨rfl, hb1⟩
    have yb : Below w.heap.size w w1 := by (repeat' (first | (with_reducible assumption) | (with_reducible exact Below.refl _ _) | (with_reducible refine below_al ?_ _) | (with_reducible refine below_drewN ?_ _) | (with_reducible refine Below.drew ?_) | (with_reducible refine Below.alloc ?_ ?_ _) | (with_reducible refine Below.setCell ?_ ?_ _) | (refine below_trans ?_ (by assumption)) | go_size))
    have zA := yA.below hb1
    have zB := yB.below hb1
    have zC := yC.below hb1
    clear yA yB yC hb1 A
    obtain ⟨k0, k1, f0, f1⟩ := id zC
    go_wp2_with fail
    refine bodyPost_ret (by simp [results, Tryz.results8, go_sem, k0, k1]; try rfl) rfl ?_
    exact ⟨by simp [h0], by (repeat' (first | (with_reducible assumption) | (with_reducible exact Below.refl _ _) | (with_reducible refine below_al ?_ _) | (with_reducible refine below_drewN ?_ _) | (with_reducible refine Below.drew ?_) | (with_reducible refine Below.alloc ?_ ?_ _) | (with_reducible refine Below.setCell ?_ ?_ _) | (refine below_trans ?_ (by assumption)) | go_size))⟩
end Go.Proofs.YtfphmlmgjhebjaaGreatDoor
