/- SpanSums: what the proof leans on, part 26 (Ss18 Ss19 Ss20 Ss21). -/
import Derived.Maps.AppendAt
import Derived.Test.YtfphmlmgjhebjaaGreatDoorKSpanSums25
set_option linter.unusedVariables false
set_option linter.unusedSimpArgs false
namespace Go.Proofs.YtfphmlmgjhebjaaGreatDoor
open Go.RowKit Go.Ulp
set_option linter.unusedVariables false
set_option linter.unusedSimpArgs false
/-- corners of which some are left out -/
theorem cst_some (o : Nat → Nat → Bool) (r : Nat → Nat → Int → Int) (l h m i : Nat) (hc : ∀ n, n < 4 → ∀ mode, (mode = 1 ∨ mode = 2) → classOf (r (pxN l h n) (pyN m i n) mode) ≠ 5) :
    ∀ k, k ≤ 4 → ((cstN o r l h m i k).1 = true ∧ ∀ n, n < k → o (pxN l h n) (pyN m i n) = false) ∨
      ((cstN o r l h m i k).1 = false ∧ classOf (cstN o r l h m i k).2.1 ≠ 5 ∧ classOf (cstN o r l h m i k).2.2 ≠ 5 ∧
        (∀ n, n < k → o (pxN l h n) (pyN m i n) = true → rankOf (cstN o r l h m i k).2.1 ≤ rankOf (r (pxN l h n) (pyN m i n) 2) ∧ rankOf (r (pxN l h n) (pyN m i n) 1) ≤ rankOf (cstN o r l h m i k).2.2) ∧
        (∃ n, n < k ∧ o (pxN l h n) (pyN m i n) = true ∧ rankOf (cstN o r l h m i k).2.1 = rankOf (r (pxN l h n) (pyN m i n) 2)) ∧
        (∃ n, n < k ∧ o (pxN l h n) (pyN m i n) = true ∧ rankOf (cstN o r l h m i k).2.2 = rankOf (r (pxN l h n) (pyN m i n) 1))) := by
  intro k
  induction k with
  | zero => intro _; exact .inl ⟨rfl, fun n hn => by omega⟩
  | succ k ih =>
    intro hk
    have h1 := hc k (by omega) 1 (.inl rfl)
    have h2 := hc k (by omega) 2 (.inr rfl)
    have hs : cstN o r l h m i (k + 1) = cst (o (pxN l h k) (pyN m i k)) (r (pxN l h k) (pyN m i k) 2) (r (pxN l h k) (pyN m i k) 1) (cstN o r l h m i k) := rfl
    cases ho : o (pxN l h k) (pyN m i k)
    · rw [ho] at hs
      rw [show cst false (r (pxN l h k) (pyN m i k) 2) (r (pxN l h k) (pyN m i k) 1) (cstN o r l h m i k) = cstN o r l h m i k from rfl] at hs
      rw [hs]
      rcases ih (by omega) with ⟨a, b⟩ | ⟨a, b, c, d, ⟨n, e1, e2, e3⟩, ⟨n', f1, f2, f3⟩⟩
      · refine .inl ⟨a, fun n hn => ?_⟩
        by_cases e : n = k
        · subst e; exact ho
        · exact b n (by omega)
      · refine .inr ⟨a, b, c, fun n hn hon => ?_, ⟨n, by omega, e2, e3⟩, ⟨n', by omega, f2, f3⟩⟩
        by_cases e : n = k
        · subst e; rw [ho] at hon; cases hon
        · exact d n (by omega) hon
    · rw [ho] at hs
      rcases ih (by omega) with ⟨a, b⟩ | ⟨a, b, c, d, ⟨n, e1, e2, e3⟩, ⟨n', f1, f2, f3⟩⟩
      · have hs2 : cstN o r l h m i (k + 1) = (false, r (pxN l h k) (pyN m i k) 2, r (pxN l h k) (pyN m i k) 1) := by
          rw [hs]; unfold cst; rw [if_pos rfl, a]; rfl
        rw [hs2]
        refine .inr ⟨rfl, h2, h1, fun n hn hon => ?_, ⟨k, by omega, ho, rfl⟩, ⟨k, by omega, ho, rfl⟩⟩
        by_cases e : n = k
        · subst e; exact ⟨Int.le_refl _, Int.le_refl _⟩
        · rw [b n (by omega)] at hon; cases hon
      · have hs2 : cstN o r l h m i (k + 1) = (false, (if (false || leB (r (pxN l h k) (pyN m i k) 2) (cstN o r l h m i k).2.1) = true then r (pxN l h k) (pyN m i k) 2 else (cstN o r l h m i k).2.1), (if (false || leB (cstN o r l h m i k).2.2 (r (pxN l h k) (pyN m i k) 1)) = true then r (pxN l h k) (pyN m i k) 1 else (cstN o r l h m i k).2.2)) := by
          rw [hs]; unfold cst; rw [if_pos rfl, a]
        rw [hs2]
        obtain ⟨p1, p2⟩ := pick_low h2 b
        obtain ⟨q1, q2⟩ := pick_high h1 c
        refine .inr ⟨rfl, p2, q2, fun n hn hon => ?_, ?_, ?_⟩
        · rw [p1, q1]
          by_cases e : n = k
          · subst e; omega
          · have := d n (by omega) hon; omega
        · rw [p1]
          by_cases e : rankOf (r (pxN l h k) (pyN m i k) 2) ≤ rankOf (cstN o r l h m i k).2.1
          · exact ⟨k, by omega, ho, by omega⟩
          · exact ⟨n, by omega, e2, by omega⟩
        · rw [q1]
          by_cases e : rankOf (cstN o r l h m i k).2.2 ≤ rankOf (r (pxN l h k) (pyN m i k) 1)
          · exact ⟨k, by omega, ho, by omega⟩
          · exact ⟨n', by omega, f2, by omega⟩
theorem cst_u64g (o : Nat → Nat → Bool) (r : Nat → Nat → Int → Int) (hr : ∀ x y mode, U64 (r x y mode)) (l h m i : Nat) : ∀ k, U64 (cstN o r l h m i k).2.1 ∧ U64 (cstN o r l h m i k).2.2 := by
  intro k
  induction k with
  | zero => exact (show U64 (0 : Int) ∧ U64 (0 : Int) from ⟨⟨by decide, by decide⟩, ⟨by decide, by decide⟩⟩)
  | succ k ih =>
    show U64 (cst _ _ _ _).2.1 ∧ U64 (cst _ _ _ _).2.2
    unfold cst
    split
    · exact ⟨ite_u64 (hr _ _ _) ih.1, ite_u64 (hr _ _ _) ih.2⟩
    · exact ih
theorem capX_rank (neg : Bool) (mode R : Int) (h : 0 ≤ R) : -9218868437227405312 ≤ rankOf (capX neg mode R) ∧ rankOf (capX neg mode R) ≤ 9218868437227405312 := by
  have key : ∀ v : Int, 0 ≤ v → v ≤ 9218868437227405312 → -9218868437227405312 ≤ rankOf (v + sgb neg) ∧ rankOf (v + sgb neg) ≤ 9218868437227405312 := fun v h0 h1 => by
    cases neg
    · show -9218868437227405312 ≤ rankOf (v + 0) ∧ rankOf (v + 0) ≤ 9218868437227405312
      unfold rankOf; split <;> omega
    · show -9218868437227405312 ≤ rankOf (v + 9223372036854775808) ∧ rankOf (v + 9223372036854775808) ≤ 9218868437227405312
      unfold rankOf; split <;> omega
  unfold capX
  split
  · split
    · exact key _ (by omega) (by omega)
    · exact key _ (by omega) (by omega)
  · exact key _ h (by omega)
theorem qeN_U64 (D E : Dy) (mode : Int) : U64 (qeN D E mode) := capX_bd _ _ _ (numR_nonneg _ _ _ _)
theorem qeR_u64 (x y : Nat) (mode : Int) : U64 (qeR x y mode) := by
  unfold qeR qeX
  split
  · exact ⟨by decide, by decide⟩
  · split
    · exact outX_u64 _ _ _
    · exact qeN_U64 _ _ _
theorem extS_ok {w : Int} (D : Dy) (h : w = 0 ∨ w = 1 ∨ w = -1) : extS w D = 0 ∨ extS w D = 1 ∨ extS w D = -1 := by
  unfold extS
  split
  · exact h
  · unfold cmpD cmpI; split; exact .inr (.inr rfl); split; exact .inr (.inl rfl); exact .inl rfl
theorem qeR_rank (x y : Nat) (mode : Int) (hm : mode = 1 ∨ mode = 2) : -9218868437227405312 ≤ rankOf (qeR x y mode) ∧ rankOf (qeR x y mode) ≤ 9218868437227405312 := by
  unfold qeR qeX
  split
  · exact ⟨by decide, by decide⟩
  · split
    · refine outX_rank_bd _ _ mode hm ?_
      rcases exW_ok (x : Int) with e | e | e <;> rcases extS_ok (exD (y : Int)) (exW_ok (y : Int)) with e' | e' | e' <;> rw [e, e'] <;> decide
    · exact capX_rank _ _ _ (numR_nonneg _ _ _ _)
theorem qeR_val (x y : Nat) (mode : Int) (hv : valB (y : Int) = false) : qeR x y mode = 0 := by
  unfold qeR qeX
  rw [if_pos (.inl (by unfold exW; rw [hv, if_neg (by decide)]; split <;> omega))]
theorem qeR_inf (x y : Nat) (hx : EndN x) (hy : EndN y) (cy : classOf (y : Int) ≠ 1) (mode : Int) (vx : valB (x : Int) = false) (vy : valB (y : Int) = true) :
    rankOf (qeR x y mode) = if negB (x : Int) = negB (y : Int) then 9218868437227405312 else -9218868437227405312 := by
  obtain ⟨hx0, cx5, zx⟩ := hx
  obtain ⟨hy0, cy5, zy⟩ := hy
  have sy := ext_sign (y : Int) (by omega) (by omega) cy5 cy
  have eW : exW (x : Int) = if negB (x : Int) = true then -1 else 1 := by unfold exW; rw [vx]; rfl
  have wy : exW (y : Int) = 0 := by unfold exW; rw [vy]; rfl
  have hw : exW (x : Int) ≠ 0 := by rw [eW]; split <;> omega
  unfold qeR qeX
  rw [if_neg (fun h => h.elim (fun k => k wy) (fun k => by unfold extS at k; rw [if_pos hw] at k; exact hw k)), if_pos hw, sy, eW]
  cases negB (x : Int) <;> cases negB (y : Int) <;> rfl
/-- a span's two ends -/
def SpanN (l h : Nat) : Prop := EndN l ∧ EndN h ∧ rankOf (l : Int) ≤ rankOf (h : Int) ∧ (l : Int) ≠ 9218868437227405312 ∧ (h : Int) ≠ 18442240474082181120
theorem end_inf (x : Nat) (hx : EndN x) (v : valB (x : Int) = false) : (x : Int) = 9218868437227405312 ∨ (x : Int) = 18442240474082181120 := by
  obtain ⟨h0, h5, -⟩ := hx
  have k := (val_kinds (x : Int)).2 v h5
  have h4 : classOf (x : Int) = 4 := by have := k.2; unfold isInf at this; exact beq_iff_eq.1 this
  have := (class_inf (x : Int) (by omega) (by omega)).1 h4
  unfold absOf at this; omega
theorem divO_val (x y : Nat) (hx : EndN x) (hy : EndN y) : divO x y = (valB (x : Int) || valB (y : Int)) := by
  have := hx.1; have := hy.1
  unfold divO
  rw [hasVal_valB _ (by omega) (by omega), hasVal_valB _ (by omega) (by omega)]
/-- neither end of what is divided by is 0, both have one sign -/
theorem no_zero (m i : Nat) (h : SpanN m i) (hz : hasZ m i = false) : classOf (m : Int) ≠ 1 ∧ classOf (i : Int) ≠ 1 ∧ negB (m : Int) = negB (i : Int) ∧ (valB (m : Int) = true ∨ valB (i : Int) = true) := by
  obtain ⟨hm, hi, ho, h1, h2⟩ := h
  obtain ⟨m0, m5, mz⟩ := id hm
  obtain ⟨i0, i5, iz⟩ := id hi
  have z0 : classOf 0 ≠ 5 := by decide
  have z1 : rankOf 0 = 0 := rfl
  have hh : ¬ (rankOf (m : Int) ≤ 0 ∧ 0 ≤ rankOf (i : Int)) := fun k => by
    have : hasZ m i = true := by
      unfold hasZ leB
      rw [decide_eq_true ⟨m5, z0, by rw [z1]; exact k.1⟩, decide_eq_true ⟨z0, i5, by rw [z1]; exact k.2⟩]; rfl
    rw [hz] at this; cases this
  have em := zero_iff (m : Int) (by omega) (by omega)
  have ei := zero_iff (i : Int) (by omega) (by omega)
  refine ⟨fun k => ?_, fun k => ?_, ?_, ?_⟩
  · have := em.1 k; unfold absOf at this; unfold rankOf at hh ho; split at hh <;> split at hh <;> omega
  · have := ei.1 k; unfold absOf at this; unfold rankOf at hh ho; split at hh <;> split at hh <;> omega
  · unfold negB
    rw [decide_eq_decide]
    unfold rankOf at hh ho; split at hh <;> split at hh <;> omega
  · cases vm : valB (m : Int)
    · cases vi : valB (i : Int)
      · exfalso
        have a := end_inf m hm vm
        have b := end_inf i hi vi
        rcases a with a | a <;> rcases b with b | b
        · exact h1 a
        · exact h1 a
        · rw [a, b] at hh; exact hh ⟨by decide, by decide⟩
        · exact h2 b
      · exact .inr rfl
    · exact .inl rfl
end Go.Proofs.YtfphmlmgjhebjaaGreatDoor

set_option linter.unusedVariables false
set_option linter.unusedSimpArgs false
namespace Go.Proofs.YtfphmlmgjhebjaaGreatDoor
open Go.RowKit Go.Ulp
set_option maxRecDepth 100000
set_option linter.unusedVariables false
set_option linter.unusedSimpArgs false
theorem min_of {lo a0 a1 a2 a3 : Int} (h0 : lo ≤ a0) (h1 : lo ≤ a1) (h2 : lo ≤ a2) (h3 : lo ≤ a3) (e : lo = a0 ∨ lo = a1 ∨ lo = a2 ∨ lo = a3) : lo = min a3 (min a2 (min a1 a0)) := by omega
theorem max_of {lo a0 a1 a2 a3 : Int} (h0 : a0 ≤ lo) (h1 : a1 ≤ lo) (h2 : a2 ≤ lo) (h3 : a3 ≤ lo) (e : lo = a0 ∨ lo = a1 ∨ lo = a2 ∨ lo = a3) : lo = max a3 (max a2 (max a1 a0)) := by omega
theorem lt_four {n : Nat} (h : n < 4) : n = 0 ∨ n = 1 ∨ n = 2 ∨ n = 3 := by omega
theorem min_re (a b c d : Int) : min d (min c (min b (min a a))) = min d (min c (min b a)) := by omega
theorem max_re (a b c d : Int) : max d (max c (max b (max a a))) = max d (max c (max b a)) := by omega
/-- where a corner is left out, others have its 0 between them -/
theorem left_out (l h m i : Nat) (ha : SpanN l h) (hb : SpanN m i) (hz : hasZ m i = false) (n : Nat) (hn : n < 4) (ho : divO (pxN l h n) (pyN m i n) = false) :
    (∃ k, k < 4 ∧ divO (pxN l h k) (pyN m i k) = true ∧ rankOf (qeR (pxN l h k) (pyN m i k) 2) ≤ 0) ∧ (∃ k, k < 4 ∧ divO (pxN l h k) (pyN m i k) = true ∧ 0 ≤ rankOf (qeR (pxN l h k) (pyN m i k) 1)) := by
  obtain ⟨cm, ci, sg, hv⟩ := no_zero m i hb hz
  obtain ⟨hl, hh, -, l1, h2⟩ := ha
  obtain ⟨hm, hi, -, -, -⟩ := hb
  have o0 := divO_val l m hl hm
  have o1 := divO_val l i hl hi
  have o2 := divO_val h m hh hm
  have o3 := divO_val h i hh hi
  have zr : ∀ (x y : Nat) (mode : Int), valB (y : Int) = false → rankOf (qeR x y mode) = 0 := fun x y mode hy => by rw [qeR_val x y mode hy]; rfl
  have nl : valB (l : Int) = false → negB (l : Int) = true := fun v => by
    rcases end_inf l hl v with e | e
    · exact absurd e l1
    · rw [e]; rfl
  have nh : valB (h : Int) = false → negB (h : Int) = false := fun v => by
    rcases end_inf h hh v with e | e
    · rw [e]; rfl
    · exact absurd e h2
  cases vm : valB (m : Int)
  · have vi : valB (i : Int) = true := by rcases hv with k | k; rw [vm] at k; cases k; exact k
    cases vl : valB (l : Int)
    · cases vh : valB (h : Int)
      · have q1 := fun mode => qeR_inf l i hl hi ci mode vl vi
        have q3 := fun mode => qeR_inf h i hh hi ci mode vh vi
        rw [nl vl] at q1
        rw [nh vh] at q3
        have d1 : divO l i = true := by rw [o1, vi, Bool.or_true]
        have d3 : divO h i = true := by rw [o3, vi, Bool.or_true]
        cases hg : negB (i : Int)
        · rw [hg] at q1 q3
          exact ⟨⟨1, by omega, d1, by show rankOf (qeR l i 2) ≤ 0; rw [q1]; decide⟩, ⟨3, by omega, d3, by show 0 ≤ rankOf (qeR h i 1); rw [q3]; decide⟩⟩
        · rw [hg] at q1 q3
          exact ⟨⟨3, by omega, d3, by show rankOf (qeR h i 2) ≤ 0; rw [q3]; decide⟩, ⟨1, by omega, d1, by show 0 ≤ rankOf (qeR l i 1); rw [q1]; decide⟩⟩
      · have d2 : divO h m = true := by rw [o2, vh]; rfl
        exact ⟨⟨2, by omega, d2, by show rankOf (qeR h m 2) ≤ 0; rw [zr h m 2 vm]; decide⟩, ⟨2, by omega, d2, by show 0 ≤ rankOf (qeR h m 1); rw [zr h m 1 vm]; decide⟩⟩
    · have d0 : divO l m = true := by rw [o0, vl]; rfl
      exact ⟨⟨0, by omega, d0, by show rankOf (qeR l m 2) ≤ 0; rw [zr l m 2 vm]; decide⟩, ⟨0, by omega, d0, by show 0 ≤ rankOf (qeR l m 1); rw [zr l m 1 vm]; decide⟩⟩
  · cases vi : valB (i : Int)
    · cases vl : valB (l : Int)
      · cases vh : valB (h : Int)
        · have q1 := fun mode => qeR_inf l m hl hm cm mode vl vm
          have q3 := fun mode => qeR_inf h m hh hm cm mode vh vm
          rw [nl vl] at q1
          rw [nh vh] at q3
          have d1 : divO l m = true := by rw [o0, vm, Bool.or_true]
          have d3 : divO h m = true := by rw [o2, vm, Bool.or_true]
          cases hg : negB (m : Int)
          · rw [hg] at q1 q3
            exact ⟨⟨0, by omega, d1, by show rankOf (qeR l m 2) ≤ 0; rw [q1]; decide⟩, ⟨2, by omega, d3, by show 0 ≤ rankOf (qeR h m 1); rw [q3]; decide⟩⟩
          · rw [hg] at q1 q3
            exact ⟨⟨2, by omega, d3, by show rankOf (qeR h m 2) ≤ 0; rw [q3]; decide⟩, ⟨0, by omega, d1, by show 0 ≤ rankOf (qeR l m 1); rw [q1]; decide⟩⟩
        · have d2 : divO h i = true := by rw [o3, vh]; rfl
          exact ⟨⟨3, by omega, d2, by show rankOf (qeR h i 2) ≤ 0; rw [zr h i 2 vi]; decide⟩, ⟨3, by omega, d2, by show 0 ≤ rankOf (qeR h i 1); rw [zr h i 1 vi]; decide⟩⟩
      · have d0 : divO l i = true := by rw [o1, vl]; rfl
        exact ⟨⟨1, by omega, d0, by show rankOf (qeR l i 2) ≤ 0; rw [zr l i 2 vi]; decide⟩, ⟨1, by omega, d0, by show 0 ≤ rankOf (qeR l i 1); rw [zr l i 1 vi]; decide⟩⟩
    · exfalso
      rcases (show n = 0 ∨ n = 1 ∨ n = 2 ∨ n = 3 by omega) with e | e | e | e <;> subst e
      · rw [show divO (pxN l h 0) (pyN m i 0) = divO l m from rfl, o0, vm, Bool.or_true] at ho; cases ho
      · rw [show divO (pxN l h 1) (pyN m i 1) = divO l i from rfl, o1, vi, Bool.or_true] at ho; cases ho
      · rw [show divO (pxN l h 2) (pyN m i 2) = divO h m from rfl, o2, vm, Bool.or_true] at ho; cases ho
      · rw [show divO (pxN l h 3) (pyN m i 3) = divO h i from rfl, o3, vi, Bool.or_true] at ho; cases ho
/-- the row of the reference -/
def qRow (l h m i : Nat) (mode : Int) : List (Int × Dy) := [exP (qeR l m mode), exP (qeR l i mode), exP (qeR h m mode), exP (qeR h i mode)]
theorem div_corners (l h m i : Nat) (ha : SpanN l h) (hb : SpanN m i) (hz : hasZ m i = false) :
    plainOf (divT l h m i).2.1 = outX (lowF (qRow l h m i 2) 4).1 (lowF (qRow l h m i 2) 4).2 2 ∧
    plainOf (divT l h m i).2.2 = outX (highF (qRow l h m i 1) 4).1 (highF (qRow l h m i 1) 4).2 1 := by
  obtain ⟨cm, ci, -, -⟩ := no_zero m i hb hz
  have ex : ∀ n, EndN (pxN l h n) := fun n => by unfold pxN; split; exact ha.1; exact ha.2.1
  have ey : ∀ n, EndN (pyN m i n) := fun n => by unfold pyN; split; exact hb.1; exact hb.2.1
  have cy : ∀ n, classOf ((pyN m i n : Nat) : Int) ≠ 1 := fun n => by unfold pyN; split; exact cm; exact ci
  have dq : ∀ n mode, (mode = 1 ∨ mode = 2) → divO (pxN l h n) (pyN m i n) = true → rankOf (divR (pxN l h n) (pyN m i n) mode) = rankOf (qeR (pxN l h n) (pyN m i n) mode) := fun n mode hmd ho => div_out _ _ (ex n) (ey n) (cy n) mode hmd ho
  have hc : ∀ n, n < 4 → ∀ mode, (mode = 1 ∨ mode = 2) → classOf (divR (pxN l h n) (pyN m i n) mode) ≠ 5 := fun n _ mode hmd => by
    cases ho : divO (pxN l h n) (pyN m i n)
    · unfold divR; rw [ho, if_neg (by decide)]; decide
    · exact class_of_rank _ (divR_u64 _ _ _) (by rw [dq n mode hmd ho]; exact qeR_rank _ _ mode hmd)
  have skip := left_out l h m i ha hb hz
  have S := cst_some divO divR l h m i hc 4 (by omega)
  rw [show cstN divO divR l h m i 4 = divT l h m i from rfl] at S
  rcases S with ⟨-, b⟩ | ⟨-, -, -, d, ⟨n, e1, e2, e3⟩, ⟨n', f1, f2, f3⟩⟩
  · obtain ⟨⟨k, k1, k2, -⟩, -⟩ := skip 0 (by omega) (b 0 (by omega))
    rw [b k k1] at k2; cases k2
  have u := cst_u64g divO divR divR_u64 l h m i 4
  rw [show cstN divO divR l h m i 4 = divT l h m i from rfl] at u
  have D : ∀ n, n < 4 → rankOf (divT l h m i).2.1 ≤ rankOf (qeR (pxN l h n) (pyN m i n) 2) ∧ rankOf (qeR (pxN l h n) (pyN m i n) 1) ≤ rankOf (divT l h m i).2.2 := fun n hn => by
    cases ho : divO (pxN l h n) (pyN m i n)
    · obtain ⟨⟨k, k1, k2, k3⟩, ⟨j, j1, j2, j3⟩⟩ := skip n hn ho
      have a := (d k k1 k2).1
      have b := (d j j1 j2).2
      rw [dq k 2 (.inr rfl) k2] at a
      rw [dq j 1 (.inl rfl) j2] at b
      have vy : valB ((pyN m i n : Nat) : Int) = false := by
        rw [divO_val _ _ (ex n) (ey n)] at ho
        exact (Bool.or_eq_false_iff.1 ho).2
      rw [qeR_val _ _ 2 vy, qeR_val _ _ 1 vy, show rankOf 0 = 0 from rfl]
      omega
    · have a := d n hn ho
      rw [dq n 2 (.inr rfl) ho, dq n 1 (.inl rfl) ho] at a
      exact a
  rw [dq n 2 (.inr rfl) e2] at e3
  rw [dq n' 1 (.inl rfl) f2] at f3
  have D0 := D 0 (by omega)
  have D1 := D 1 (by omega)
  have D2 := D 2 (by omega)
  have D3 := D 3 (by omega)
  rw [show pxN l h 0 = l from rfl, show pyN m i 0 = m from rfl] at D0
  rw [show pxN l h 1 = l from rfl, show pyN m i 1 = i from rfl] at D1
  rw [show pxN l h 2 = h from rfl, show pyN m i 2 = m from rfl] at D2
  rw [show pxN l h 3 = h from rfl, show pyN m i 3 = i from rfl] at D3
  clear D d skip hc dq
  have row : ∀ mode, (mode = 1 ∨ mode = 2) → (∀ j, j < (qRow l h m i mode).length → XOk ((qRow l h m i mode).getD j (0, (0, 0)))) := fun mode _ j hj => by
    have hj2 : j < 4 := hj
    rcases (show j = 0 ∨ j = 1 ∨ j = 2 ∨ j = 3 by omega) with e | e | e | e <;> subst e <;> exact exP_ok _
  have rk : ∀ x y mode, (mode = 1 ∨ mode = 2) → rkO mode (exP (qeR x y mode)) = rankOf (qeR x y mode) := fun x y mode hmd => exP_rank _ (qeR_u64 x y mode) (class_of_rank _ (qeR_u64 x y mode) (qeR_rank x y mode hmd)) mode hmd
  have lw : rkO 2 (lowF (qRow l h m i 2) 4) = min (rankOf (qeR h i 2)) (min (rankOf (qeR h m 2)) (min (rankOf (qeR l i 2)) (rankOf (qeR l m 2)))) := by
    have ok := row 2 (.inr rfl)
    have hn : (qRow l h m i 2).length = 4 := rfl
    rw [lowF_step _ (by omega) ok 2 (.inr rfl) 3 (by omega), lowF_step _ (by omega) ok 2 (.inr rfl) 2 (by omega), lowF_step _ (by omega) ok 2 (.inr rfl) 1 (by omega), lowF_step _ (by omega) ok 2 (.inr rfl) 0 (by omega), show lowF (qRow l h m i 2) 0 = exP (qeR l m 2) from rfl,
      show (qRow l h m i 2).getD 3 (0, (0, 0)) = exP (qeR h i 2) from rfl, show (qRow l h m i 2).getD 2 (0, (0, 0)) = exP (qeR h m 2) from rfl, show (qRow l h m i 2).getD 1 (0, (0, 0)) = exP (qeR l i 2) from rfl, show (qRow l h m i 2).getD 0 (0, (0, 0)) = exP (qeR l m 2) from rfl,
      rk _ _ 2 (.inr rfl), rk _ _ 2 (.inr rfl), rk _ _ 2 (.inr rfl), rk _ _ 2 (.inr rfl)]
    exact min_re _ _ _ _
  have hg : rkO 1 (highF (qRow l h m i 1) 4) = max (rankOf (qeR h i 1)) (max (rankOf (qeR h m 1)) (max (rankOf (qeR l i 1)) (rankOf (qeR l m 1)))) := by
    have ok := row 1 (.inl rfl)
    have hn : (qRow l h m i 1).length = 4 := rfl
    rw [highF_step _ (by omega) ok 1 (.inl rfl) 3 (by omega), highF_step _ (by omega) ok 1 (.inl rfl) 2 (by omega), highF_step _ (by omega) ok 1 (.inl rfl) 1 (by omega), highF_step _ (by omega) ok 1 (.inl rfl) 0 (by omega), show highF (qRow l h m i 1) 0 = exP (qeR l m 1) from rfl,
      show (qRow l h m i 1).getD 3 (0, (0, 0)) = exP (qeR h i 1) from rfl, show (qRow l h m i 1).getD 2 (0, (0, 0)) = exP (qeR h m 1) from rfl, show (qRow l h m i 1).getD 1 (0, (0, 0)) = exP (qeR l i 1) from rfl, show (qRow l h m i 1).getD 0 (0, (0, 0)) = exP (qeR l m 1) from rfl,
      rk _ _ 1 (.inl rfl), rk _ _ 1 (.inl rfl), rk _ _ 1 (.inl rfl), rk _ _ 1 (.inl rfl)]
    exact max_re _ _ _ _
  have L9 : rankOf (divT l h m i).2.1 = rkO 2 (lowF (qRow l h m i 2) 4) := by
    refine (min_of D0.1 D1.1 D2.1 D3.1 ?_).trans lw.symm
    rcases lt_four e1 with e | e | e | e <;> subst e
    · exact .inl e3
    · exact .inr (.inl e3)
    · exact .inr (.inr (.inl e3))
    · exact .inr (.inr (.inr e3))
  have H9 : rankOf (divT l h m i).2.2 = rkO 1 (highF (qRow l h m i 1) 4) := by
    refine (max_of D0.2 D1.2 D2.2 D3.2 ?_).trans hg.symm
    rcases lt_four f1 with e | e | e | e <;> subst e
    · exact .inl f3
    · exact .inr (.inl f3)
    · exact .inr (.inr (.inl f3))
    · exact .inr (.inr (.inr f3))
  constructor
  · rw [← outX_plain (lowF (qRow l h m i 2) 4).1 (lowF (qRow l h m i 2) 4).2 2]
    exact plain_of_rank u.1 (outX_u64 _ _ _) L9
  · rw [← outX_plain (highF (qRow l h m i 1) 4).1 (highF (qRow l h m i 1) 4).2 1]
    exact plain_of_rank u.2 (outX_u64 _ _ _) H9
end Go.Proofs.YtfphmlmgjhebjaaGreatDoor

set_option linter.unusedVariables false
set_option linter.unusedSimpArgs false
namespace Go.Proofs.YtfphmlmgjhebjaaGreatDoor
open Go.RowKit Go.Ulp
set_option maxRecDepth 100000
set_option linter.unusedVariables false
set_option linter.unusedSimpArgs false
theorem span_n {l h : Nat} (hl : l < 18446744073709551616) (hh : h < 18446744073709551616) (hs : spanB (l : Int) (h : Int) = true) : SpanN l h := by
  obtain ⟨a1, a2, a3, a4, a5, a6, a7⟩ := spanB_facts hs
  exact ⟨⟨hl, a5, a1⟩, ⟨hh, a6, a2⟩, a7, a3, a4⟩
theorem span_b {l h : Nat} (hs : SpanN l h) : spanB (l : Int) (h : Int) = true := by
  obtain ⟨⟨_, a5, a1⟩, ⟨_, a6, a2⟩, a7, a3, a4⟩ := hs
  unfold spanB edgeB leB
  rw [decide_eq_true ⟨a1, a2, a3, a4⟩, decide_eq_true ⟨a5, a6, a7⟩]; rfl
/-- a number turned -/
theorem npl_end (x : Nat) (hx : EndN x) : EndN (npl x) ∧ rankOf (npl x : Int) = -rankOf (x : Int) ∧ exW (npl x : Int) = -exW (x : Int) ∧ exD (npl x : Int) = negD (exD (x : Int)) := by
  obtain ⟨hx0, c5, z⟩ := hx
  obtain ⟨e, hb⟩ := npl_eq hx0
  have hab : absOf (npl x : Int) = absOf (x : Int) := by rw [e]; unfold absOf plainOf negOf; split <;> (try split) <;> omega
  have hr : rankOf (npl x : Int) = -rankOf (x : Int) := by rw [e]; unfold rankOf plainOf negOf; split <;> split <;> (try split) <;> (try split) <;> omega
  have nx : ∀ y : Nat, y < 18446744073709551616 → classOf (y : Int) = 5 → 9218868437227405312 < absOf (y : Int) := fun y hy h => (class_nan (y : Int) (by omega) (by omega)).1 h
  have hc : classOf (npl x : Int) ≠ 5 := fun h => c5 ((class_nan (x : Int) (by omega) (by omega)).2 (by rw [← hab]; exact (class_nan (npl x : Int) (by omega) (by omega)).1 h))
  have hz : (npl x : Int) ≠ 9223372036854775808 := by rw [e]; unfold plainOf; split <;> omega
  have hv : valB (npl x : Int) = valB (x : Int) := by
    have h1 := class_val (npl x : Int) (by omega) (by omega)
    have h2 := class_val (x : Int) (by omega) (by omega)
    unfold valB
    rw [decide_eq_decide]
    rw [hab] at h1
    have := h1.trans h2.symm
    omega
  refine ⟨⟨hb, hc, hz⟩, hr, ?_, ?_⟩
  · unfold exW
    rw [hv]
    cases vx : valB (x : Int)
    · have h4 : classOf (x : Int) = 4 := by have := class_bd (x : Int); unfold valB at vx; have := of_decide_eq_false vx; omega
      have ha := (class_inf (x : Int) (by omega) (by omega)).1 h4
      have hn : negB (npl x : Int) = !negB (x : Int) := by
        unfold negB; rw [e]; unfold absOf at ha; unfold plainOf negOf
        by_cases h9 : 9223372036854775808 ≤ (x : Int)
        · rw [decide_eq_true h9, if_neg (by rw [if_neg (by omega)]; omega), if_neg (by omega), decide_eq_false (by omega)]; rfl
        · rw [decide_eq_false h9, if_neg (by rw [if_pos (by omega)]; omega), if_pos (by omega), decide_eq_true (by omega)]; rfl
      rw [hn]
      cases negB (x : Int) <;> rfl
    · rfl
  · unfold exD
    rw [hv]
    cases vx : valB (x : Int)
    · rfl
    · rw [if_pos rfl, if_pos rfl, fv_rank _ (by omega) (by omega), fv_rank _ (by omega) (by omega), hr, rvs_neg, nrm_neg]
theorem plain_neg_inf (x : Int) (h0 : 0 ≤ x) (h1 : x < 18446744073709551616) : (plainOf (negOf x) = 9218868437227405312 → x = 18442240474082181120) ∧ (plainOf (negOf x) = 18442240474082181120 → x = 9218868437227405312) := by
  unfold plainOf negOf
  by_cases k : x < 9223372036854775808
  · rw [if_pos k]; split <;> omega
  · rw [if_neg k]; split <;> omega
theorem span_turn (m i : Nat) (hs : SpanN m i) : SpanN (npl i) (npl m) := by
  obtain ⟨hm, hi, ho, h1, h2⟩ := hs
  obtain ⟨a1, a2, -, -⟩ := npl_end m hm
  obtain ⟨b1, b2, -, -⟩ := npl_end i hi
  refine ⟨b1, a1, by omega, fun e => ?_, fun e => ?_⟩
  · have k := (npl_eq hi.1).1; rw [e] at k; have := hi.1; exact h2 ((plain_neg_inf (i : Int) (by omega) (by omega)).1 k.symm)
  · have k := (npl_eq hm.1).1; rw [e] at k; have := hm.1; exact h1 ((plain_neg_inf (m : Int) (by omega) (by omega)).2 k.symm)
theorem inf_lo (l h : Nat) (hs : SpanN l h) : isInf (l : Int) = true → negB (l : Int) = true := fun hi => by
  obtain ⟨hl, -, -, l1, -⟩ := hs
  have v : valB (l : Int) = false := by unfold valB; unfold isInf at hi; have := beq_iff_eq.1 hi; rw [this]; rfl
  rcases end_inf l hl v with e | e
  · exact absurd e l1
  · rw [e]; rfl
theorem inf_hi (l h : Nat) (hs : SpanN l h) : isInf (h : Int) = true → negB (h : Int) = false := fun hi => by
  obtain ⟨-, hh, -, -, h2⟩ := hs
  have v : valB (h : Int) = false := by unfold valB; unfold isInf at hi; have := beq_iff_eq.1 hi; rw [this]; rfl
  rcases end_inf h hh v with e | e
  · rw [e]; rfl
  · exact absurd e h2
/-- the sum's ends -/
theorem add_ends (l h m i : Nat) (ha : SpanN l h) (hb : SpanN m i) :
    plainOf (sumX [l, m] 2) = outX (addW (exW (l : Int)) (exW (m : Int))) (addE (exW (l : Int)) (exD (l : Int)) (exW (m : Int)) (exD (m : Int))) 2 ∧
    plainOf (sumX [h, i] 1) = outX (addW (exW (h : Int)) (exW (i : Int))) (addE (exW (h : Int)) (exD (h : Int)) (exW (i : Int)) (exD (i : Int))) 1 :=
  ⟨add_out l m ha.1.1 hb.1.1 ha.1.2.1 hb.1.2.1 (fun ⟨k1, k2, k3⟩ => k3 (by rw [inf_lo l h ha k1, inf_lo m i hb k2])) 2,
   add_out h i ha.2.1.1 hb.2.1.1 ha.2.1.2.1 hb.2.1.2.1 (fun ⟨k1, k2, k3⟩ => k3 (by rw [inf_hi l h ha k1, inf_hi m i hb k2])) 1⟩
theorem check_n {l h m i : Nat} (hl : l < 18446744073709551616) (hh : h < 18446744073709551616) (hm : m < 18446744073709551616) (hi : i < 18446744073709551616) (h0 : checkE (l : Int) (h : Int) (m : Int) (i : Int) = 0) : SpanN l h ∧ SpanN m i :=
  ⟨span_n hl hh (checkE_facts h0).1, span_n hm hi (checkE_facts h0).2⟩
theorem n_check {l h m i : Nat} (ha : SpanN l h) (hb : SpanN m i) : checkE (l : Int) (h : Int) (m : Int) (i : Int) = 0 := by
  unfold checkE; rw [if_pos (span_b ha)]; exact spanE_true (span_b hb)
def adL (w1 : Int) (D : Dy) (w2 : Int) (E : Dy) (mode : Int) : Int := outX (addW w1 w2) (addE w1 D w2 E) mode
theorem add_says {l h m i : Nat} (ha : SpanN l h) (hb : SpanN m i) :
    addV l h m i = #[.int .u64 (adL (exW (l : Int)) (exD (l : Int)) (exW (m : Int)) (exD (m : Int)) 2), .int .u64 (adL (exW (h : Int)) (exD (h : Int)) (exW (i : Int)) (exD (i : Int)) 1)] := by
  obtain ⟨e1, e2⟩ := add_ends l h m i ha hb
  unfold addV adL
  rw [if_pos (n_check ha hb), e1, e2]
theorem sub_says {l h m i : Nat} (ha : SpanN l h) (hb : SpanN m i) :
    subV l h m i = #[.int .u64 (adL (exW (l : Int)) (exD (l : Int)) (-exW (i : Int)) (negD (exD (i : Int))) 2), .int .u64 (adL (exW (h : Int)) (exD (h : Int)) (-exW (m : Int)) (negD (exD (m : Int))) 1)] ∧ subE l h m i = 0 := by
  have ht := span_turn m i hb
  obtain ⟨-, -, p3, p4⟩ := npl_end m hb.1
  obtain ⟨-, -, q3, q4⟩ := npl_end i hb.2.1
  unfold subV subE
  rw [if_pos (n_check ha hb), if_pos (n_check ha hb), add_says ha ht, p3, p4, q3, q4]
  exact ⟨rfl, n_check ha ht⟩
def mRow (l h m i : Nat) : List (Int × Dy) := [mulP l m, mulP l i, mulP h m, mulP h i]
theorem mul_says {l h m i : Nat} (ha : SpanN l h) (hb : SpanN m i) :
    mulV l h m i = #[.int .u64 (outX (lowF (mRow l h m i) 4).1 (lowF (mRow l h m i) 4).2 2), .int .u64 (outX (highF (mRow l h m i) 4).1 (highF (mRow l h m i) 4).2 1)] := by
  obtain ⟨e1, e2⟩ := mul_corners l h m i ha.1 ha.2.1 hb.1 hb.2.1
  unfold mulV mRow
  rw [if_pos (n_check ha hb), e1, e2]
/-- whether 0 is in -/
def zIn (m i : Nat) : Bool := decide (extS (exW (m : Int)) (exD (m : Int)) ≤ 0) && decide (0 ≤ extS (exW (i : Int)) (exD (i : Int)))
theorem sg_ext (x : Nat) (hx : EndN x) : (extS (exW (x : Int)) (exD (x : Int)) ≤ 0 ↔ rankOf (x : Int) ≤ 0) ∧ (0 ≤ extS (exW (x : Int)) (exD (x : Int)) ↔ 0 ≤ rankOf (x : Int)) := by
  obtain ⟨h0, c5, z⟩ := hx
  by_cases c1 : classOf (x : Int) = 1
  · have := (zero_iff (x : Int) (by omega) (by omega)).1 c1
    have x0 : (x : Int) = 0 := by unfold absOf at this; omega
    rw [ext_zero (x : Int) x0, x0]; decide
  · have s := ext_sign (x : Int) (by omega) (by omega) c5 c1
    have n0 : absOf (x : Int) ≠ 0 := fun k => c1 ((zero_iff (x : Int) (by omega) (by omega)).2 k)
    rw [s]
    unfold absOf at n0
    unfold negB rankOf
    by_cases h9 : 9223372036854775808 ≤ (x : Int)
    · rw [decide_eq_true h9, if_pos rfl, if_pos h9]; omega
    · rw [decide_eq_false h9, if_neg (by decide), if_neg h9]; omega
theorem zin_eq {m i : Nat} (hb : SpanN m i) : hasZ m i = zIn m i := by
  obtain ⟨hm, hi, ho, h1, h2⟩ := hb
  have a := (sg_ext m hm).1
  have b := (sg_ext i hi).2
  unfold hasZ zIn leB
  have z0 : classOf 0 ≠ 5 := by decide
  have z1 : rankOf 0 = 0 := rfl
  rw [z1]
  have e1 : decide (classOf (m : Int) ≠ 5 ∧ classOf 0 ≠ 5 ∧ rankOf (m : Int) ≤ 0) = decide (extS (exW (m : Int)) (exD (m : Int)) ≤ 0) := by
    rw [decide_eq_decide]
    exact ⟨fun k => a.2 k.2.2, fun k => ⟨hm.2.1, z0, a.1 k⟩⟩
  have e2 : decide (classOf 0 ≠ 5 ∧ classOf (i : Int) ≠ 5 ∧ 0 ≤ rankOf (i : Int)) = decide (0 ≤ extS (exW (i : Int)) (exD (i : Int))) := by
    rw [decide_eq_decide]
    exact ⟨fun k => b.2 k.2.2, fun k => ⟨z0, hi.2.1, b.1 k⟩⟩
  rw [e1, e2]
theorem div_says {l h m i : Nat} (ha : SpanN l h) (hb : SpanN m i) :
    (zIn m i = true → divV l h m i = #[.int .u64 0, .int .u64 0] ∧ divE l h m i = 1) ∧
    (zIn m i = false → divV l h m i = #[.int .u64 (outX (lowF (qRow l h m i 2) 4).1 (lowF (qRow l h m i 2) 4).2 2), .int .u64 (outX (highF (qRow l h m i 1) 4).1 (highF (qRow l h m i 1) 4).2 1)] ∧ divE l h m i = 0) := by
  have hz := zin_eq hb
  refine ⟨fun z => ?_, fun z => ?_⟩
  · have he : divE l h m i = 1 := by unfold divE; rw [if_pos (n_check ha hb), hz, z]; rfl
    refine ⟨?_, he⟩
    unfold divV; rw [he, if_neg (by omega)]
  · have he : divE l h m i = 0 := by unfold divE; rw [if_pos (n_check ha hb), hz, z]; rfl
    obtain ⟨e1, e2⟩ := div_corners l h m i ha hb (by rw [hz]; exact z)
    refine ⟨?_, he⟩
    unfold divV; rw [if_pos he, e1, e2]
/-- what is rounded of a quotient is a number again -/
theorem qeR_num (x y : Nat) (mode : Int) (hm : mode = 1 ∨ mode = 2) : U64 (qeR x y mode) ∧ nanB (qeR x y mode) = false := by
  have h := class_of_rank _ (qeR_u64 x y mode) (qeR_rank x y mode hm)
  exact ⟨qeR_u64 x y mode, by unfold nanB; exact decide_eq_false h⟩
end Go.Proofs.YtfphmlmgjhebjaaGreatDoor

set_option linter.unusedVariables false
set_option linter.unusedSimpArgs false
namespace Go.Ulp
open Go.RowKit
/-- a number's slices lie in blocks of another type than the row's -/
theorem QD.grown {ti te : TypeId} {w w' : World} {row : Option Nat} {D : Dy} {A T : Nat} {v : Value} (h : QD ti w D A T v) (hg : w.grownBy w' row) (hrow : ∀ k, row = some k → ElemIs w k te) (hne : te ≠ ti) : QD ti w' D A T v := by
  obtain ⟨x, n, ao, cap, h1, ⟨⟨k1, k2, k3⟩, k4⟩, h3⟩ := h
  refine ⟨x, n, ao, cap, h1, ⟨⟨k1, k2, fun hp => ?_⟩, fun hp b off he => ?_⟩, h3⟩
  · obtain ⟨b, off, e, hc⟩ := k3 hp
    refine ⟨b, off, e, fun i hi => ?_⟩
    refine hg.cell (hc i hi) (fun e9 => ?_)
    exact hne ((hrow b e9.symm).uniq (k4 hp b off e))
  · have s := k4 hp b off he
    obtain ⟨m, hm⟩ := s
    refine ⟨m, ?_⟩
    rw [shape_of_block (hg.block b (ElemIs.lt ⟨m, hm⟩) (fun e9 => hne ((hrow b e9.symm).uniq ⟨m, hm⟩)))]
    exact hm
/-- a row of ends of the call's own -/
def XO (base : Nat) (ti te : TypeId) (w : World) (v : Value) (L : List (Int × Dy)) : Prop :=
  ∃ xs, w.ownsRow base te 4 v L.length xs ∧ ∀ j, j < L.length → ∃ n ao l c t, xs[j * 4]? = some (.bool n) ∧ xs[j * 4 + 1]? = some (.slice ao l c) ∧ xs[j * 4 + 2]? = some (.int .i64 t) ∧ xs[j * 4 + 3]? = some (.int .i64 (L.getD j (0, (0, 0))).1) ∧
    QD ti w (L.getD j (0, (0, 0))).2 6000 5900 (.agg #[.bool n, .slice ao l c, .int .i64 t])
theorem XO.nil {base : Nat} {ti te : TypeId} {w : World} : XO base ti te w (.slice none 0 0) [] := ⟨[], World.ownsRow_nil _ _ _ _, fun j h => absurd h (Nat.not_lt_zero j)⟩
theorem XO.below {base : Nat} {ti te : TypeId} {w w' : World} {v : Value} {L : List (Int × Dy)} (h : XO base ti te w v L) (hb : Below w.heap.size w w') : XO base ti te w' v L := by
  obtain ⟨xs, ⟨h1, h2⟩, h3⟩ := h
  refine ⟨xs, ⟨h1, ?_⟩, fun j hj => ?_⟩
  · rcases h2 with hn | ⟨g, cap, cur, rfl, hg, hh, rest⟩
    · exact .inl hn
    · refine .inr ⟨g, cap, cur, rfl, hg, ?_, rest⟩
      rw [hb.block g (Array.getElem?_eq_some_iff.1 hh).1]; exact hh
  · obtain ⟨n, ao, l, c, t, a0, a1, a2, a3, q⟩ := h3 j hj
    exact ⟨n, ao, l, c, t, a0, a1, a2, a3, q.below hb⟩
theorem XO.elem {base : Nat} {ti te : TypeId} {w : World} {v : Value} {L : List (Int × Dy)} (h : XO base ti te w v L) : ∀ k, v.ownBlock = some k → ElemIs w k te ∧ base ≤ k := fun k hk => by
  obtain ⟨xs, ⟨h1, h2⟩, h3⟩ := h
  rcases h2 with ⟨e, _⟩ | ⟨g, cap, cur, rfl, hg, hh, rest⟩
  · rw [e] at hk; cases hk
  · have : g = k := by simpa [Value.ownBlock] using hk
    subst this
    exact ⟨⟨cur.size, by unfold World.shape?; rw [hh]⟩, hg⟩
theorem XO.xl {base : Nat} {ti te : TypeId} {w : World} {v : Value} {L : List (Int × Dy)} (h : XO base ti te w v L) (hl : 0 < L.length) : ∃ g cap, v = .slice (some ⟨g, 0, none⟩) L.length cap ∧ XL ti w g L := by
  obtain ⟨xs, ho, h3⟩ := h
  rcases id ho.2 with ⟨_, e⟩ | ⟨g, cap, cur, hv, hg, hh, rest⟩
  · omega
  · refine ⟨g, cap, hv, fun j hj => ?_⟩
    obtain ⟨n, ao, l, c, t, a0, a1, a2, a3, q⟩ := h3 j hj
    have hl2 := ho.1
    have key : ∀ i, i < L.length * 4 → w.cell? ⟨g, i, none⟩ = xs[i]? := fun i hi => by
      have hx : i < xs.length := by omega
      have := World.ownsRow.cells ho (g := g) (by rw [hv]; rfl) i _ (List.getElem?_eq_getElem hx)
      rw [show (⟨g, 0, none⟩ : Addr).add i = ⟨g, i, none⟩ by unfold Addr.add; split; (rename_i e; subst e; rfl); simp] at this
      rw [this, List.getElem?_eq_getElem hx]
    exact ⟨n, ao, l, c, t, (key _ (by omega)).trans a0, (key _ (by omega)).trans a1, (key _ (by omega)).trans a2, (key _ (by omega)).trans a3, q⟩
section
variable {P : Program} {w : World}
/-- one end more -/
theorem wpList_pushX {ops : Array Oper} {rest : List Oper} {o : Oper} {a : Act} {Q : Exit → Act → World → Prop} {t e ti : TypeId} (ht : P.underlying t = some (.slice e)) (z : Value) (hinfo : (P.info? e).map (fun i => (i.zero, i.size, i.bytes)) = some (some z, 4, 48)) (hz : z.cells.size = 4) (hne : e ≠ ti) (hgd : o.guard = none) (s x : Operand)
    (ho : o.op = .call { callee := .builtin .append, args := #[s, x], argTypes := #[t, t] })
    (base : Nat) (L : List (Int × Dy)) (v : Value) (hs : a.eval s = v) (hown : XO base ti e w v L) (g : Nat) (hx : a.eval x = .slice (some ⟨g, 0, none⟩) 1 1)
    (n : Bool) (ao : Option Addr) (l c : Nat) (tt way : Int) (D : Dy) (hq : QD ti w D 6000 5900 (.agg #[.bool n, .slice ao l c, .int .i64 tt]))
    (c0 : w.cell? ⟨g, 0, none⟩ = some (.bool n)) (c1 : w.cell? ⟨g, 1, none⟩ = some (.slice ao l c)) (c2 : w.cell? ⟨g, 2, none⟩ = some (.int .i64 tt)) (c3 : w.cell? ⟨g, 3, none⟩ = some (.int .i64 way))
    (hlen : L.length ≤ 1000) (hbase : base ≤ w.heap.size)
    (h : ∀ v' w', XO base ti e w' v' (L ++ [(way, D)]) → w.grownBy w' v.ownBlock → (v'.ownBlock = v.ownBlock ∨ v'.ownBlock = some w.heap.size) → wpList P ops Q rest (a.put o.dst v') w') : wpList P ops Q (o :: rest) a w := by
  obtain ⟨i, hi, h1, h2, h3⟩ := info_parts hinfo
  have hel := hown.elem
  obtain ⟨xs, hrow, hcells⟩ := hown
  refine wpList_append_own_at w hgd s x t ho base e i z 4 48 ht hi h1 h2 h3 hz (by decide) v L.length xs hs hrow ⟨g, 0, none⟩ 1 1 [.bool n, .slice ao l c, .int .i64 tt, .int .i64 way] hx rfl ?_ ?_ ?_ ?_ hbase ?_
  · intro j u hj
    match j, hj with
    | 0, hj => simp at hj; subst hj; simpa [Addr.add] using c0
    | 1, hj => simp at hj; subst hj; simpa [Addr.add] using c1
    | 2, hj => simp at hj; subst hj; simpa [Addr.add] using c2
    | 3, hj => simp at hj; subst hj; simpa [Addr.add] using c3
    | j + 4, hj => simp at hj
  · intro u hu
    simp at hu
    rcases hu with e | e | e | e <;> subst e <;> rfl
  · unfold maxLen; omega
  · omega
  · intro v' w' k1 k2 _ k4
    have hl2 := hrow.1
    refine h v' w' ?_ k2 k4
    · refine ⟨xs ++ [.bool n, .slice ao l c, .int .i64 tt, .int .i64 way], ?_, fun j hj => ?_⟩
      · rw [List.length_append]; exact k1
      · rw [List.length_append] at hj
        by_cases hjl : j < L.length
        · obtain ⟨n', ao', l', c', t', a0, a1, a2, a3, q⟩ := hcells j hjl
          have eD : (L ++ [(way, D)]).getD j (0, (0, 0)) = L.getD j (0, (0, 0)) := by
            rw [List.getD_eq_getElem?_getD, List.getD_eq_getElem?_getD, List.getElem?_append_left hjl]
          rw [eD]
          refine ⟨n', ao', l', c', t', ?_, ?_, ?_, ?_, q.grown k2 (fun k hk => (hel k hk).1) hne⟩
          all_goals rw [List.getElem?_append_left (by omega)]; assumption
        · have ej : j = L.length := by simp at hj; omega
          subst ej
          have eD : (L ++ [(way, D)]).getD L.length (0, (0, 0)) = (way, D) := by
            rw [List.getD_eq_getElem?_getD, List.getElem?_append_right (Nat.le_refl _)]; simp
          rw [eD]
          refine ⟨n, ao, l, c, tt, ?_, ?_, ?_, ?_, hq.grown k2 (fun k hk => (hel k hk).1) hne⟩
          all_goals rw [List.getElem?_append_right (by omega), hl2]; simp
end
end Go.Ulp
namespace Go.Proofs.YtfphmlmgjhebjaaGreatDoor
open Go.RowKit Go.Ulp
set_option linter.unusedVariables false
set_option linter.unusedSimpArgs false
theorem ext_slice : Tryz.prog.underlying 45 = some (.slice 35) := Tryz.underlying45
theorem ext_info : (Tryz.prog.info? 35).map (fun i => (i.zero, i.size, i.bytes)) = some (some (.agg #[.bool false, .slice none 0 0, .int .i64 0, .int .i64 0]), 4, 48) := by kernel_rfl
end Go.Proofs.YtfphmlmgjhebjaaGreatDoor
