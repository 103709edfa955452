/- sum.all: the sum of a list, rounded once. -/
import Derived.Test.YthaelmnblgollaaGreatDoorSu0
import Derived.Test.YthaelmnblgollaaGreatDoorSh
set_option linter.unusedVariables false
set_option linter.unusedSimpArgs false
namespace Go.Ulp
open Go.RowKit
/-- what the loop holds -/
def AS (L : List Nat) (i : Nat) (inf : Int) (cl nn : Bool) (ng ps : Nat) (S : Int) : Prop :=
  inf = infTo L i ∧ cl = clashTo L i ∧ nn = anyTo isNan L i ∧ ng = cntTo mZer L i ∧ ps = cntTo pZer L i ∧ S = sumTo L i
theorem AS.start (L : List Nat) : AS L 0 0 false false 0 0 0 := ⟨rfl, rfl, rfl, rfl, rfl, rfl⟩
theorem AS.nan {L : List Nat} {i : Nat} {inf : Int} {cl nn : Bool} {ng ps : Nat} {S : Int} (h : AS L i inf cl nn ng ps S) (hc : classOf (lb L i) = 5) : AS L (i + 1) inf cl true ng ps S := by
  obtain ⟨a, b, c, d, e, f⟩ := h
  unfold AS infTo clashTo anyTo cntTo sumTo mZer pZer isInf isNan isZer uV
  rw [hc]
  simp [← a, ← b, ← d, ← e, ← f]
  exact ⟨d, e⟩
theorem AS.inf {L : List Nat} {i : Nat} {inf : Int} {cl nn : Bool} {ng ps : Nat} {S : Int} (h : AS L i inf cl nn ng ps S) (hc : classOf (lb L i) = 4) : AS L (i + 1) (lb L i) (cl || (decide (inf ≠ 0) && decide (inf ≠ lb L i))) nn ng ps S := by
  obtain ⟨a, b, c, d, e, f⟩ := h
  subst a b c d e f
  unfold AS
  rw [show infTo L (i + 1) = if isInf (lb L i) then lb L i else infTo L i from rfl, show clashTo L (i + 1) = if isInf (lb L i) then clashTo L i || (decide (infTo L i ≠ 0) && decide (infTo L i ≠ lb L i)) else clashTo L i from rfl,
    show anyTo isNan L (i + 1) = (anyTo isNan L i || isNan (lb L i)) from rfl, show cntTo mZer L (i + 1) = cntTo mZer L i + (if mZer (lb L i) then 1 else 0) from rfl, show cntTo pZer L (i + 1) = cntTo pZer L i + (if pZer (lb L i) then 1 else 0) from rfl, show sumTo L (i + 1) = sumTo L i + uV (lb L i) from rfl]
  unfold mZer pZer isInf isNan isZer uV
  rw [hc]
  simp
theorem AS.zer {L : List Nat} {i : Nat} {inf : Int} {cl nn : Bool} {ng ps : Nat} {S : Int} (h : AS L i inf cl nn ng ps S) (hc : classOf (lb L i) = 1) (hu : uV (lb L i) = 0) :
    AS L (i + 1) inf cl nn (ng + (if negB (lb L i) then 1 else 0)) (ps + (if negB (lb L i) then 0 else 1)) S := by
  obtain ⟨a, b, c, d, e, f⟩ := h
  subst a b c d e f
  unfold AS
  rw [show infTo L (i + 1) = if isInf (lb L i) then lb L i else infTo L i from rfl, show clashTo L (i + 1) = if isInf (lb L i) then clashTo L i || (decide (infTo L i ≠ 0) && decide (infTo L i ≠ lb L i)) else clashTo L i from rfl,
    show anyTo isNan L (i + 1) = (anyTo isNan L i || isNan (lb L i)) from rfl, show cntTo mZer L (i + 1) = cntTo mZer L i + (if mZer (lb L i) then 1 else 0) from rfl, show cntTo pZer L (i + 1) = cntTo pZer L i + (if pZer (lb L i) then 1 else 0) from rfl, show sumTo L (i + 1) = sumTo L i + uV (lb L i) from rfl]
  rw [hu]
  unfold mZer pZer isInf isNan isZer
  rw [hc]
  cases negB (lb L i) <;> simp
theorem AS.val {L : List Nat} {i : Nat} {inf : Int} {cl nn : Bool} {ng ps : Nat} {S : Int} (h : AS L i inf cl nn ng ps S) (h5 : classOf (lb L i) ≠ 5) (h4 : classOf (lb L i) ≠ 4) (h1 : classOf (lb L i) ≠ 1) :
    AS L (i + 1) inf cl nn ng ps (S + uV (lb L i)) := by
  obtain ⟨a, b, c, d, e, f⟩ := h
  subst a b c d e f
  unfold AS
  rw [show infTo L (i + 1) = if isInf (lb L i) then lb L i else infTo L i from rfl, show clashTo L (i + 1) = if isInf (lb L i) then clashTo L i || (decide (infTo L i ≠ 0) && decide (infTo L i ≠ lb L i)) else clashTo L i from rfl,
    show anyTo isNan L (i + 1) = (anyTo isNan L i || isNan (lb L i)) from rfl, show cntTo mZer L (i + 1) = cntTo mZer L i + (if mZer (lb L i) then 1 else 0) from rfl, show cntTo pZer L (i + 1) = cntTo pZer L i + (if pZer (lb L i) then 1 else 0) from rfl, show sumTo L (i + 1) = sumTo L i + uV (lb L i) from rfl]
  unfold mZer pZer isInf isNan isZer
  have e5 : (classOf (lb L i) == 5) = false := beq_eq_false_iff_ne.2 h5
  have e4 : (classOf (lb L i) == 4) = false := beq_eq_false_iff_ne.2 h4
  have e1 : (classOf (lb L i) == 1) = false := beq_eq_false_iff_ne.2 h1
  rw [e5, e4, e1]
  simp
section
variable {L : List Nat} {inf : Int} {cl nn : Bool} {ng ps : Nat} {S : Int} {mode : Int}
theorem AS.sNan (hL : ∀ j, lb L j < 18446744073709551616) (h : AS L L.length inf cl nn ng ps S) : Go.Ulp.sNan L = (nn || cl) := by
  obtain ⟨a, b, c, d, e, f⟩ := h
  unfold Go.Ulp.sNan
  rw [c, b]
  rcases inf_state L hL L.length with ⟨x, y, z, t⟩ | ⟨x, y, t⟩ | ⟨x, y, t⟩
  · rw [t, y, z]; rfl
  · rw [t, y]; simp
  · rw [t, y]; simp
theorem AS.sInf (hL : ∀ j, lb L j < 18446744073709551616) (h : AS L L.length inf cl nn ng ps S) : Go.Ulp.sInf L = decide (inf ≠ 0) := by
  obtain ⟨a, b, c, d, e, f⟩ := h
  unfold Go.Ulp.sInf
  rw [a]
  rcases inf_state L hL L.length with ⟨x, y, z, t⟩ | ⟨x, y, t⟩ | ⟨x, y, t⟩
  · rw [x, y, z]; rfl
  · rw [x, y]; simp
  · rw [x, y]; simp
theorem AS.infX (hL : ∀ j, lb L j < 18446744073709551616) (h : AS L L.length inf cl nn ng ps S) (hc : cl = false) (hi : inf ≠ 0) : inf = if anyTo mInf L L.length then 18442240474082181120 else 9218868437227405312 := by
  obtain ⟨a, b, c, d, e, f⟩ := h
  rcases inf_state L hL L.length with ⟨x, y, z, t⟩ | ⟨x, y, t⟩ | ⟨x, y, t⟩
  · exact absurd (a.trans x) hi
  · rw [← t, ← b, hc]; rw [a, x]; rfl
  · rw [y]; rw [a, x]; rfl
theorem AS.ansNan (hL : ∀ j, lb L j < 18446744073709551616) (h : AS L L.length inf cl nn ng ps S) (hb : (nn || cl) = true) : sumX L mode = 9221120237041090560 ∧ sumC L mode = false := by
  unfold sumX sumC; rw [h.sNan hL, hb]; exact ⟨rfl, rfl⟩
theorem AS.ansInf (hL : ∀ j, lb L j < 18446744073709551616) (h : AS L L.length inf cl nn ng ps S) (hb : (nn || cl) = false) (hi : inf ≠ 0) : sumX L mode = inf ∧ sumC L mode = false := by
  have hc : cl = false := by cases cl; rfl; rw [Bool.or_true] at hb; cases hb
  unfold sumX sumC; rw [h.sNan hL, hb, h.sInf hL, decide_eq_true hi]; exact ⟨(h.infX hL hc hi).symm, rfl⟩
theorem AS.ansNum (hL : ∀ j, lb L j < 18446744073709551616) (h : AS L L.length inf cl nn ng ps S) (hb : (nn || cl) = false) (hi : inf = 0) (hS : S ≠ 0) : sumX L mode = rX (nrm S (-1074)) mode ∧ sumC L mode = rC (nrm S (-1074)) mode := by
  have e := h.2.2.2.2.2
  unfold sumX sumC sDy; rw [h.sNan hL, hb, h.sInf hL, decide_eq_false (by simpa using hi), ← e, if_pos hS, if_pos hS]; exact ⟨rfl, rfl⟩
theorem AS.ansPos (hL : ∀ j, lb L j < 18446744073709551616) (h : AS L L.length inf cl nn ng ps S) (hb : (nn || cl) = false) (hi : inf = 0) (hS : S = 0) (hp : ps = L.length) : sumX L mode = 0 ∧ sumC L mode = false := by
  have e := h.2.2.2.2.2
  have e2 := h.2.2.2.2.1
  unfold sumX sumC; rw [h.sNan hL, hb, h.sInf hL, decide_eq_false (by simpa using hi), ← e, if_neg (not_not_intro hS), if_neg (not_not_intro hS), ← e2, if_pos hp]; exact ⟨rfl, rfl⟩
theorem AS.ansNeg (hL : ∀ j, lb L j < 18446744073709551616) (h : AS L L.length inf cl nn ng ps S) (hb : (nn || cl) = false) (hi : inf = 0) (hS : S = 0) (hp : ps ≠ L.length) (hn : ng = L.length) : sumX L mode = 9223372036854775808 ∧ sumC L mode = false := by
  have e := h.2.2.2.2.2
  have e2 := h.2.2.2.2.1
  have e3 := h.2.2.2.1
  unfold sumX sumC; rw [h.sNan hL, hb, h.sInf hL, decide_eq_false (by simpa using hi), ← e, if_neg (not_not_intro hS), if_neg (not_not_intro hS), ← e2, if_neg hp, ← e3, if_pos hn]; exact ⟨rfl, rfl⟩
theorem AS.ansNone (hL : ∀ j, lb L j < 18446744073709551616) (h : AS L L.length inf cl nn ng ps S) (hb : (nn || cl) = false) (hi : inf = 0) (hS : S = 0) (hp : ps ≠ L.length) (hn : ng ≠ L.length) : sumX L mode = sgb (mode == 2) ∧ sumC L mode = false := by
  have e := h.2.2.2.2.2
  have e2 := h.2.2.2.2.1
  have e3 := h.2.2.2.1
  unfold sumX sumC sgb; rw [h.sNan hL, hb, h.sInf hL, decide_eq_false (by simpa using hi), ← e, if_neg (not_not_intro hS), if_neg (not_not_intro hS), ← e2, if_neg hp, ← e3, if_neg hn]
  refine ⟨?_, rfl⟩
  by_cases m : mode = 2
  · rw [if_pos m, beq_iff_eq.2 m]; rfl
  · rw [if_neg m, beq_eq_false_iff_ne.2 m]; rfl
end
theorem sumD_bd (A : Nat) (hA : A = 2298) (L : List Nat) (hL : ∀ j, lb L j < 18446744073709551616) (i : Nat) (hi : i ≤ 200) : (nrm (sumTo L i) (-1074)).1.natAbs < 2 ^ A ∧ -1074 ≤ (nrm (sumTo L i) (-1074)).2 ∧ (nrm (sumTo L i) (-1074)).2 ≤ 4000 := by
  have h := sumTo_bd 2098 (Nat.le_refl _) L hL i
  have h2 := Nat.lt_of_lt_of_le h (Nat.pow_le_pow_right (by omega) (show 2098 + i ≤ A by omega))
  obtain ⟨k1, k2⟩ := nrm_bd (sumTo L i) (-1074) A h2
  exact ⟨k1, by rcases k2 with k | k <;> omega, by rcases k2 with k | k <;> omega⟩
end Go.Ulp
namespace Go.Proofs.YthaelmnblgollaaGreatDoor
open Go.RowKit Go.Ulp
set_option linter.unusedVariables false
set_option linter.unusedSimpArgs false
set_option maxHeartbeats 2000000
set_option maxRecDepth 100000
theorem zeroS_any (neg : Bool) (w : World) : Calls Tryz.prog 235 #[.bool neg] w fun e w' => e = .returned (.int .u64 (sgb neg)) ∧ w = w' := by
  cases neg
  · go_enter Tryz.func235, Tryz.ntmps235
    go_wp2_with fail
    go_ret
    exact ⟨rfl, rfl⟩
  · go_enter Tryz.func235, Tryz.ntmps235
    go_wp2_with fail
    go_ret
    exact ⟨rfl, rfl⟩
theorem sumAll_any (ao : Option Addr) (cap : Nat) (L : List Nat) (mode : Int) (w : World) (h : Ns .u64 w ao cap L) (hL : ∀ j, lb L j < 18446744073709551616) (hlen : L.length ≤ 200) (hT : Tab 0 w) :
    Calls Tryz.prog 174 #[.slice ao L.length cap, .int .i64 mode] w (RetX w (sumX L mode) (sumC L mode)) := by
  have hNL := h
  obtain ⟨h1, h2, h3⟩ := h
  unfold maxLen at h2
  obtain ⟨N, hN⟩ : ∃ N, N = L.length := ⟨_, rfl⟩
  have CL := hid (fun j w => class_any (lb L j) (lb_nonneg _ _) (hL j) w)
  have VA := hid (fun j w t => value_any (lb L j) (lb_nonneg _ _) (hL j) w t)
  have HL := hid hL
  have HL0 := hid hL
  have FV := hid (fun j (h : classOf (lb L j) < 4) => fv_uV (lb L j) (lb_nonneg _ _) (hL j) h)
  have UZ := hid (fun j (h : classOf (lb L j) = 1) => uV_zer (lb L j) (lb_nonneg _ _) (hL j) h)
  have ZB := hid (fun j (h : classOf (lb L j) = 1) => zer_bits (lb L j) (lb_nonneg _ _) (hL j) h)
  have CB := hid (fun j => class_bd (lb L j))
  obtain ⟨A, hA⟩ : ∃ A : Nat, A = 2298 := ⟨_, rfl⟩
  have SB := hid (fun i hi => sumD_bd A hA L hL i hi)
  obtain ⟨K, hK⟩ : ∃ K : Nat, K = 100 := ⟨_, rfl⟩
  have LB := hid (fun (M : Nat) (h : M < 2 ^ A) => (limbs_le_bits M K).2 (Nat.lt_of_lt_of_le h (Nat.pow_le_pow_right (by omega) (by omega))))
  have HT := hid hT
  have HNL := hid hNL
  have yb0 := below_alloc w (.cells #[.bool false, .slice none 0 0, .int .i64 0] 26)
  have zR0 : DV 26 (w.alloc (.cells #[.bool false, .slice none 0 0, .int .i64 0] 26)) w.heap.size (nrm 0 (-1074)) := ⟨none, 0, QL.made rfl, Ns.nil⟩
  clear hL hT hA hNL
  go_enter Tryz.func174, Tryz.ntmps174
  go_wp2_with fail
  go_loopw [6, 7, 8, 9, 10, 13, 16] (fun s6 s7 s8 s9 s10 _ s16 wr => ∃ (i : Nat) (inf : Int) (cl nn : Bool) (ng ps : Nat) (S : Int), s16 = .int .i64 (i : Int) ∧ i ≤ L.length ∧ s6 = .int .u64 inf ∧ s7 = .bool cl ∧ s8 = .bool nn ∧ s9 = .int .i64 (ng : Int) ∧ s10 = .int .i64 (ps : Int) ∧ AS L i inf cl nn ng ps S ∧ DV 26 wr w.heap.size (nrm S (-1074)) ∧ Below w.heap.size w wr) (fun _ _ _ _ _ _ s16 _ => (L.length - (intOf s16).toNat))
  case atStart => exact ⟨0, 0, false, false, 0, 0, 0, rfl, by omega, rfl, rfl, rfl, rfl, rfl, AS.start L, zR0, yb0⟩
  case round =>
    obtain ⟨i, inf, cl, nn, ng, ps, S, rfl, hi, rfl, rfl, rfl, rfl, rfl, hAS, hDV, yb⟩ := hrel
    have HAS := hid hAS
    have HDV := hid hDV
    have c1 := cnt_le mZer L i
    have c2 := cnt_le pZer L i
    have n1 : ng ≤ i := by rw [hAS.2.2.2.1]; exact c1
    have n2 : ps ≤ i := by rw [hAS.2.2.2.2.1]; exact c2
    have HS := hid hAS.2.2.2.2.2
    clear hAS hDV c1 c2 h3 hN zR0 yb0
    by_cases hi2 : (i : Int) < (L.length : Int)
    · obtain ⟨b0, o0, rfl, hc0⟩ := HNL.out.2.2 (by omega)
      have k0 := (yb.cell (p := ⟨b0, o0 + i, none⟩) (World.block_lt_of_cell? _ _ (hc0 i (by omega)))).trans (hc0 i (by omega))
      have C0 := hid (CL.out i)
      have V0 := hid (VA.out i)
      have FV0 := hid (FV.out i)
      have UZ0 := hid (UZ.out i)
      have ZB0 := hid (ZB.out i)
      have cb := CB.out i
      have hx0 : 0 ≤ lb L i := lb_nonneg L i
      have SB0 := hid (SB.out i (by omega))
      obtain ⟨x, hx⟩ : ∃ x, x = lb L i := ⟨_, rfl⟩
      have HX := hid hx
      rw [← hx] at k0 C0 V0 FV0 UZ0 ZB0 cb hx0
      clear hx hc0 CL VA FV UZ ZB CB SB HL
      by_cases h5 : classOf x = 5
      · have H5 := hid h5
        rw [h5] at C0
        clear h5 cb
        go_wp2_with (go_at_call 64; (with_reducible refine (C0.out _).mono ?_); rintro en w1 ⟨rfl, rfl⟩)
        go_roundw
        case rel => exact ⟨i + 1, inf, cl, true, ng, ps, S, by go_num, by omega, rfl, rfl, rfl, rfl, rfl, HAS.out.nan (by rw [← HX.out]; exact H5.out), HDV.out, yb⟩
        case measure => simp [intOf]; omega
      by_cases h4 : classOf x = 4
      · have H4 := hid h4
        have HCL := hid (HAS.out.inf (by rw [← HX.out]; exact h4))
        rw [h4] at C0
        clear h4 h5 cb
        cases cl
        · by_cases hz : inf = 0
          · have hz2 : (inf != 0) = false := by rw [hz]; rfl
            have HZ := hid hz
            clear hz
            go_wp2_with (go_at_call 64; (with_reducible refine (C0.out _).mono ?_); rintro en w1 ⟨rfl, rfl⟩)
            go_roundw
            case rel => exact ⟨i + 1, x, false, nn, ng, ps, S, by go_num, by omega, rfl, rfl, rfl, rfl, rfl, by
              have h := HCL.out
              rw [← HX.out, HZ.out] at h
              simpa using h, HDV.out, yb⟩
            case measure => simp [intOf]; omega
          · have hz2 : (inf != 0) = true := bne_iff_ne.2 hz
            have HZ := hid hz
            clear hz
            by_cases hq : inf = x
            · have hq2 : (inf != x) = false := by rw [hq]; simp
              have HQ := hid hq
              clear hq
              go_wp2_with (go_at_call 64; (with_reducible refine (C0.out _).mono ?_); rintro en w1 ⟨rfl, rfl⟩)
              go_roundw
              case rel => exact ⟨i + 1, x, false, nn, ng, ps, S, by go_num, by omega, rfl, rfl, rfl, rfl, rfl, by
                have h := HCL.out
                rw [← HX.out, decide_eq_false (not_not_intro HQ.out), Bool.and_false, Bool.or_false] at h
                exact h, HDV.out, yb⟩
              case measure => simp [intOf]; omega
            · have hq2 : (inf != x) = true := bne_iff_ne.2 hq
              have HQ := hid hq
              clear hq
              go_wp2_with (go_at_call 64; (with_reducible refine (C0.out _).mono ?_); rintro en w1 ⟨rfl, rfl⟩)
              go_roundw
              case rel => exact ⟨i + 1, x, true, nn, ng, ps, S, by go_num, by omega, rfl, rfl, rfl, rfl, rfl, by
                have h := HCL.out
                rw [← HX.out, decide_eq_true HQ.out, decide_eq_true HZ.out] at h
                exact h, HDV.out, yb⟩
              case measure => simp [intOf]; omega
        · go_wp2_with (go_at_call 64; (with_reducible refine (C0.out _).mono ?_); rintro en w1 ⟨rfl, rfl⟩)
          go_roundw
          case rel => exact ⟨i + 1, x, true, nn, ng, ps, S, by go_num, by omega, rfl, rfl, rfl, rfl, rfl, by
            have h := HCL.out
            rw [← HX.out, Bool.true_or] at h
            exact h, HDV.out, yb⟩
          case measure => simp [intOf]; omega
      by_cases h1 : classOf x = 1
      · have HZ := hid (HAS.out.zer (by rw [← HX.out]; exact h1) (by rw [← HX.out]; exact UZ0.out h1))
        have hzb := ZB0.out h1
        rw [h1] at C0
        rw [← HX.out] at HZ
        clear h1 h4 h5 cb
        cases hn : negB x
        · have HN := hid hn
          rw [hn, if_neg (by simp)] at hzb
          clear hn
          subst hzb
          go_wp2_with (go_at_call 64; (with_reducible refine (C0.out _).mono ?_); rintro en w1 ⟨rfl, rfl⟩)
          go_roundw
          case rel => exact ⟨i + 1, inf, cl, nn, ng, ps + 1, S, by go_num, by omega, rfl, rfl, rfl, rfl, by go_num, by
            have h := HZ.out
            rw [HN.out] at h
            exact h, HDV.out, yb⟩
          case measure => simp [intOf]; omega
        · have HN := hid hn
          rw [hn, if_pos rfl] at hzb
          clear hn
          subst hzb
          go_wp2_with (go_at_call 64; (with_reducible refine (C0.out _).mono ?_); rintro en w1 ⟨rfl, rfl⟩)
          go_roundw
          case rel => exact ⟨i + 1, inf, cl, nn, ng + 1, ps, S, by go_num, by omega, rfl, rfl, rfl, by go_num, rfl, by
            have h := HZ.out
            rw [HN.out] at h
            exact h, HDV.out, yb⟩
          case measure => simp [intOf]; omega
      · have HV := hid (HAS.out.val (by rw [← HX.out]; exact h5) (by rw [← HX.out]; exact h4) (by rw [← HX.out]; exact h1))
        have hlt : classOf x < 4 := by omega
        have hfv := FV0.out hlt
        rw [← HX.out] at HV
        obtain ⟨c, hc⟩ : ∃ c, c = classOf x := ⟨_, rfl⟩
        rw [← hc] at C0 h5 h4 h1
        have e5 : (c == 5) = false := beq_eq_false_iff_ne.2 h5
        have e4 : (c == 4) = false := beq_eq_false_iff_ne.2 h4
        have e1 : (c == 1) = false := beq_eq_false_iff_ne.2 h1
        have hbd := SB0.out
        rw [← HS.out] at hbd
        have hfb := fv_bd x hx0 (by rw [HX.out]; exact HL0.out i)
        have l1 := LB.out _ hbd.1
        have l2 : (limbs (fv x).1.natAbs).length ≤ 2 := (limbs_le_bits _ 2).2 (Nat.lt_of_lt_of_le hfb.2.1 (Nat.pow_le_pow_right (by omega) (by omega)))
        have PL := hid (fun v u w h0 h1 t => plusD_any v u (nrm S (-1074)) (fv x) w h0 h1 (by omega) (by omega) ⟨by omega, by omega⟩ ⟨by omega, by omega⟩ t)
        have HSD := hid (show addD (nrm S (-1074)) (fv x) = nrm (S + uV x) (-1074) by rw [hfv, addD_step])
        rw [HSD.out] at PL
        obtain ⟨am, cm, zD, hND⟩ := HDV.out
        have HVD := hid (fun w' (hb : Below wr.heap.size wr w') => (show VD w' (nrm S (-1074)) (.agg #[.bool (decide ((nrm S (-1074)).1 < 0)), .slice am (limbs (nrm S (-1074)).1.natAbs).length cm, .int .i64 (nrm S (-1074)).2]) from ⟨am, cm, rfl, hND.below hb⟩))
        generalize nrm S (-1074) = D at *
        clear hc h5 h4 h1 hlt hfv hbd hfb l1 l2 cb HDV hND FV0 UZ0 ZB0 LB SB0
        go_upto_region 8 with (go_at_call 64; (with_reducible refine (C0.out _).mono ?_); rintro en w1 ⟨rfl, rfl⟩)
        refine wp_region_grow 4 [22, 23, 24, 25] [Fact.is (.agg #[.bool (decide (D.1 < 0)), .slice am (limbs D.1.natAbs).length cm, .int .i64 D.2]), Fact.is (.int .u64 x), Fact.vd (fv x), Fact.vd (nrm (S + uV x) (-1074))] (by kernel_rfl) (by kernel_rfl) ⟨?o0, ?o1, ?o2, ?o3, trivial⟩ ?after
        case o0 => (refine StepOK.plain rfl ?_; intro ρ w1 R hρ hb hp hR; have e11 : ρ (.tmp 11) = .pointer (some ⟨w.heap.size, 0, none⟩) := hρ.tmp 11 rfl; obtain ⟨⟨j0, j1, -, -, -⟩, j2, -⟩ := zD.below hb; have hcon := hρ.con; have hfn := hρ.fn; clear hρ hp; unfold OpRun; go_simp; exact hR _ _ (Below.refl _ _) rfl)
        case o1 => (refine StepOK.plain rfl ?_; intro ρ w1 R hρ hb hp hR; have e13 : ρ (.tmp 13) = .int .u64 x := hρ.tmp 13 rfl; have hcon := hρ.con; have hfn := hρ.fn; clear hρ hp; unfold OpRun; go_simp; exact hR _ _ (Below.refl _ _) rfl)
        case o2 => (refine StepOK.plain rfl ?_; intro ρ w1 R hρ hb hp hR; have e23 : ρ (.tmp 23) = _ := hp 1 23 rfl rfl; have hcon := hρ.con; have hfn := hρ.fn; clear hρ hp; unfold OpRun; go_simp; (refine (V0.out _ (HT.out.below (below_trans yb hb))).mono ?_; rintro e wn ⟨v9, rfl, hv9, hbn⟩; exact ⟨_, rfl, hR _ _ hbn hv9⟩))
        case o3 => (refine StepOK.plain rfl ?_; intro ρ w1 R hρ hb hp hR; have e22 : ρ (.tmp 22) = _ := hp 0 22 rfl rfl; have f24 := hp 2 24 rfl rfl; have hcon := hρ.con; have hfn := hρ.fn; clear hρ hp; unfold OpRun; go_simp; (refine (PL.out _ _ _ (HVD.out _ hb) f24 (HT.out.below (below_trans yb hb))).mono ?_; rintro e wn ⟨v9, rfl, hv9, hbn⟩; exact ⟨_, rfl, hR _ _ hbn hv9⟩))
        case after =>
          intro u wn hb hf
          have f25 := hf 3 25 (by omega) rfl
          clear hf
          simp only [putAll, Act.put, List.setIfInBounds_toArray, List.set_cons_zero, List.set_cons_succ, List.drop_succ_cons, List.drop_zero, List.drop_nil]
          obtain ⟨am2, cm2, e25, hN2⟩ := f25
          rw [e25]
          have zD2 := zD.below hb
          have yb2 := below_trans yb hb
          obtain ⟨⟨j0, j1, g0, g1, hs2⟩, j2, g2⟩ := id zD2
          clear e25
          go_wp2_with fail
          go_roundw
          case rel => exact ⟨i + 1, inf, cl, nn, ng, ps, S + uV x, by go_num, by omega, rfl, rfl, rfl, rfl, rfl, HV.out, DV.put zD2 hN2 (by intro x h; cases h), Go.Ulp.Below.put3 yb2 (Nat.le_refl _) _ _ _⟩
          case measure => simp [intOf]; omega
    · have hie : i = L.length := by omega
      subst hie
      have HA1 := hid (fun hb => HAS.out.ansNan (mode := mode) HL.out hb)
      have HA2 := hid (fun hb hi => HAS.out.ansInf (mode := mode) HL.out hb hi)
      have HA3 := hid (fun hb hi hS => HAS.out.ansNum (mode := mode) HL.out hb hi hS)
      have HA4 := hid (fun hb hi hS hp => HAS.out.ansPos (mode := mode) HL.out hb hi hS hp)
      have HA5 := hid (fun hb hi hS hp hn => HAS.out.ansNeg (mode := mode) HL.out hb hi hS hp hn)
      have HA6 := hid (fun hb hi hS hp hn => HAS.out.ansNone (mode := mode) HL.out hb hi hS hp hn)
      have SB0 := hid (SB.out L.length hlen)
      clear HAS CL VA FV UZ ZB CB SB HL HNL
      cases nn
      · cases cl
        · by_cases hz : inf = 0
          · subst hz
            by_cases hS : S = 0
            · subst hS
              have hD := HDV.out
              rw [nrm_zero] at hD
              obtain ⟨am, cm, zD⟩ := hD.none_form
              obtain ⟨⟨j0, j1, -, -, -⟩, j2, -⟩ := id zD
              clear hD
              by_cases hp : ps = L.length
              · have HP := hid (HA4.out rfl rfl rfl hp)
                subst hp
                clear HA1 HA2 HA3 HA4 HA5 HA6
                go_wp2_with fail
                go_ret2
                exact ⟨ret2 HP.out.1.symm HP.out.2.symm, yb⟩
              · have hp2 : ((ps : Int) == (L.length : Int)) = false := beq_eq_false_iff_ne.2 (by omega)
                by_cases hq : ng = L.length
                · have HP := hid (HA5.out rfl rfl rfl hp hq)
                  subst hq
                  clear HA1 HA2 HA3 HA4 HA5 HA6 hp
                  go_wp2_with fail
                  go_ret2
                  exact ⟨ret2 HP.out.1.symm HP.out.2.symm, yb⟩
                · have hq2 : ((ng : Int) == (L.length : Int)) = false := beq_eq_false_iff_ne.2 (by omega)
                  have HP := hid (HA6.out rfl rfl rfl hp hq)
                  clear HA1 HA2 HA3 HA4 HA5 HA6 hp hq
                  go_wp2_with (go_at_call 235; (with_reducible refine (zeroS_any _ _).mono ?_); rintro en w1 ⟨rfl, rfl⟩)
                  go_ret2
                  exact ⟨ret2 HP.out.1.symm HP.out.2.symm, yb⟩
            · have HP := hid (HA3.out rfl rfl hS)
              have hbd := SB0.out
              rw [← HS.out] at hbd
              have l1 := LB.out _ hbd.1
              have NU := hid (fun v w h => numberD_any v (nrm S (-1074)) mode w h (by omega) ⟨by omega, by omega⟩ (nrm_isN _ _))
              have hpos : 0 < (limbs (nrm S (-1074)).1.natAbs).length := by
                have h9 := dy_len (nrm S (-1074))
                rw [nrm_zero_iff] at h9
                omega
              obtain ⟨am, cm, zD, hND⟩ := HDV.out
              have HVD := hid (show VD wr (nrm S (-1074)) (.agg #[.bool (decide ((nrm S (-1074)).1 < 0)), .slice am (limbs (nrm S (-1074)).1.natAbs).length cm, .int .i64 (nrm S (-1074)).2]) from ⟨am, cm, rfl, hND⟩)
              obtain ⟨⟨j0, j1, -, -, -⟩, j2, -⟩ := id zD
              generalize nrm S (-1074) = D at *
              generalize (limbs D.1.natAbs).length = ll at *
              clear HA1 HA2 HA3 HA4 HA5 HA6 hbd l1 hS HDV hND LB SB0
              go_wp2_with (go_at_call 107; (with_reducible refine (NU.out _ _ HVD.out).mono ?_); rintro en w1 ⟨rfl, hb1⟩)
              go_ret2
              exact ⟨ret2 HP.out.1.symm HP.out.2.symm, below_trans yb hb1⟩
          · have hz2 : (inf != 0) = true := bne_iff_ne.2 hz
            have HP := hid (HA2.out rfl hz)
            clear HA1 HA2 HA3 HA4 HA5 HA6 hz
            go_wp2_with fail
            go_ret2
            exact ⟨ret2 HP.out.1.symm HP.out.2.symm, yb⟩
        · have HP := hid (HA1.out rfl)
          clear HA1 HA2 HA3 HA4 HA5 HA6
          go_wp2_with fail
          go_ret2
          exact ⟨ret2 HP.out.1.symm HP.out.2.symm, yb⟩
      · have HP := hid (HA1.out rfl)
        clear HA1 HA2 HA3 HA4 HA5 HA6
        go_wp2_with fail
        go_ret2
        exact ⟨ret2 HP.out.1.symm HP.out.2.symm, yb⟩
end Go.Proofs.YthaelmnblgollaaGreatDoor
