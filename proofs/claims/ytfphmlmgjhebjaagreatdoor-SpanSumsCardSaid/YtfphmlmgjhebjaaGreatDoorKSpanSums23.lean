/- SpanSums: what the proof leans on, part 23 (Ss4 Ss11 Ss12 Ss5 Ss6 Ss7). -/
import Derived.Test.YtfphmlmgjhebjaaGreatDoorKSpanSums10
import Derived.Test.YtfphmlmgjhebjaaGreatDoorKSpanSums11
import Derived.Test.YtfphmlmgjhebjaaGreatDoorKSpanSums13
import Derived.Test.YtfphmlmgjhebjaaGreatDoorKSpanSums15
import Derived.Test.YtfphmlmgjhebjaaGreatDoorKSpanSums17
import Derived.Test.YtfphmlmgjhebjaaGreatDoorKSpanSums22
set_option linter.unusedVariables false
set_option linter.unusedSimpArgs false
namespace Go.Ulp
open Go.RowKit
/-- a value, or without an end -/
def EX (ti : TypeId) (w : World) (way : Int) (D : Dy) (A : Nat) (v : Value) : Prop :=
  ∃ n ao l c t, v = .agg #[.bool n, .slice ao l c, .int .i64 t, .int .i64 way] ∧ QD ti w D A (A - 100) (.agg #[.bool n, .slice ao l c, .int .i64 t])
theorem EX.below {ti : TypeId} {w w' : World} {way : Int} {D : Dy} {A : Nat} {v : Value} (h : EX ti w way D A v) (hb : Below w.heap.size w w') : EX ti w' way D A v := by
  obtain ⟨n, ao, l, c, t, h1, h2⟩ := h
  exact ⟨n, ao, l, c, t, h1, h2.below hb⟩
theorem EX.weak {ti : TypeId} {w : World} {way : Int} {D : Dy} {A B : Nat} {v : Value} (h : EX ti w way D A v) (hA : A ≤ B) : EX ti w way D B v := by
  obtain ⟨n, ao, l, c, t, h1, h2⟩ := h
  exact ⟨n, ao, l, c, t, h1, h2.weak hA (by omega)⟩
theorem EX.set4 {t e : TypeId} {w : World} {way : Int} {D : Dy} {A : Nat} {v : Value} (h : EX t w way D A v) {g : Nat} (hs : ElemIs w g e) (hne : e ≠ t) (u0 u1 u2 u3 : Value) : EX t ((((w.setCell ⟨g, 0, none⟩ u0).setCell ⟨g, 1, none⟩ u1).setCell ⟨g, 2, none⟩ u2).setCell ⟨g, 3, none⟩ u3) way D A v := by
  obtain ⟨n, ao, l, c, t', h1, h2⟩ := h
  exact ⟨n, ao, l, c, t', h1, (((h2.setCell hs hne _ _).setCell (hs.setCell _ _) hne _ _).setCell ((hs.setCell _ _).setCell _ _) hne _ _).setCell (((hs.setCell _ _).setCell _ _).setCell _ _) hne _ _⟩
def Fact.ex (ti : TypeId) (way : Int) (D : Dy) (A : Nat) : Fact := ⟨fun v w => EX ti w way D A v, fun _ _ _ h hb => h.below hb⟩
theorem qd_zero (t : TypeId) (w : World) (A T : Nat) : QD t w (0, 0) A T (.agg #[.bool false, .slice none 0 0, .int .i64 0]) :=
  ⟨0, 0, none, 0, rfl, Nz.nil' none 0 (by decide), rfl, Nat.two_pow_pos A, Nat.zero_le _⟩
theorem XV.made9 {w : World} {g : Nat} {c0 c1 c2 c3 : Value} {t : TypeId} (hg : g = w.heap.size) : XV (w.alloc (.cells #[c0, c1, c2, c3] t)) g c0 c1 c2 c3 := by subst hg; exact XV.made
theorem XV.alloc {w : World} {g : Nat} {c0 c1 c2 c3 : Value} (h : XV w g c0 c1 c2 c3) (o : Obj) : XV (w.alloc o) g c0 c1 c2 c3 := h.below (below_alloc w o)
theorem E0.made9 {w : World} {g : Nat} {te : TypeId} {c : Array Value} (hc : c.size = 4) (hg : g = w.heap.size) : E0 te (w.alloc (.cells c te)) g := by subst hg; exact E0.made hc
def extS (way : Int) (D : Dy) : Int := if way ≠ 0 then way else cmpD D (0, 0)
def extC (w1 : Int) (D : Dy) (w2 : Int) (E : Dy) : Int := if w1 ≠ w2 then (if w1 < w2 then -1 else 1) else if w1 ≠ 0 then 0 else cmpD D E
def addW (w1 w2 : Int) : Int := if w1 ≠ 0 then w1 else w2
def addE (w1 : Int) (D : Dy) (w2 : Int) (E : Dy) : Dy := if w1 ≠ 0 then D else if w2 ≠ 0 then E else addD D E
def mulS (w1 : Int) (D : Dy) (w2 : Int) (E : Dy) : Int := extS w1 D * extS w2 E
def mulW (w1 : Int) (D : Dy) (w2 : Int) (E : Dy) : Int := if mulS w1 D w2 E = 0 then 0 else if w1 ≠ 0 ∨ w2 ≠ 0 then mulS w1 D w2 E else 0
def mulE (w1 : Int) (D : Dy) (w2 : Int) (E : Dy) : Dy := if mulS w1 D w2 E = 0 then (0, 0) else if w1 ≠ 0 ∨ w2 ≠ 0 then (0, 0) else mulD D E
def outX (way : Int) (D : Dy) (mode : Int) : Int := if way ≠ 0 then 9218868437227405312 + sgb (decide (way < 0)) else plainOf (rX D mode)
def exW (x : Int) : Int := if valB x = true then 0 else if negB x = true then -1 else 1
def exD (x : Int) : Dy := if valB x = true then fv x else (0, 0)
end Go.Ulp
namespace Go.Proofs.YtfphmlmgjhebjaaGreatDoor
open Go.RowKit Go.Ulp
set_option linter.unusedVariables false
set_option linter.unusedSimpArgs false
set_option maxHeartbeats 2000000
set_option maxRecDepth 100000
theorem extOfX_any (x : Int) (hx : U64 x) (hn : nanB x = false) (w : World) :
    Calls Tryz.prog 12 #[.int .u64 x] w fun e w' => ∃ v, e = .returned v ∧ EX 3 w' (exW x) (exD x) 1200 v ∧ Below w.heap.size w w' := by
  have I := hid (fun w => isInf_any x hx w)
  have M := hid (fun w => minus_any' x w)
  have V := hid (fun w => qval_any x hx.1 hx.2 w)
  have hiv : infB x = !valB x := by
    have := class_bd x
    unfold nanB at hn; unfold infB valB
    have : classOf x ≠ 5 := by simpa using hn
    rw [Bool.eq_iff_iff]; simp; omega
  cases hv : valB x
  · have hD : exD x = (0, 0) := by unfold exD; rw [hv]; rfl
    have hW : exW x = if negB x = true then -1 else 1 := by unfold exW; rw [hv]; rfl
    rw [hv] at hiv
    rw [hiv] at I
    rw [hD, hW]
    clear hv hiv hn hD hW
    cases hg : negB x
    all_goals
      rw [hg] at M
      clear hg
      go_enter Tryz.func12, Tryz.ntmps12
      go_wp2_with (first | (go_at_call 53; refine (I.out _).mono ?_; rintro e w' ⟨rfl, rfl⟩) | (go_at_call 51; refine (M.out _).mono ?_; rintro e w' ⟨rfl, rfl⟩))
      refine bodyPost_ret (by simp [results, Tryz.results12, go_sem]; try rfl) rfl ?_
      exact ⟨_, rfl, ⟨_, _, _, _, _, rfl, qd_zero _ _ _ _⟩, by (repeat' (first | (with_reducible exact Below.refl _ _) | (with_reducible assumption) | (with_reducible refine below_drewN ?_ _) | (with_reducible refine Below.drew ?_) | (with_reducible refine Below.alloc ?_ ?_ _) | (with_reducible refine Below.setCell ?_ ?_ _) | go_size))⟩
  · have hD : exD x = fv x := by unfold exD; rw [hv]; rfl
    have hW : exW x = 0 := by unfold exW; rw [hv]; rfl
    rw [hv] at hiv
    rw [hiv] at I
    rw [hD, hW]
    clear hv hiv hn hD hW
    go_enter Tryz.func12, Tryz.ntmps12
    go_wp2_with (first | (go_at_call 53; refine (I.out _).mono ?_; rintro e w' ⟨rfl, rfl⟩))
    have hX : E0 35 (w.alloc (.cells #[.bool false, .slice none 0 0, .int .i64 0, .int .i64 0] 35)) w.heap.size := E0.made rfl
    refine (V.out _).mono ?_
    rintro e w1 ⟨v1, rfl, hq, hb⟩
    have hq2 := hq.weak (A' := 1200) (T' := 1100) (by omega) (by omega)
    clear hq
    obtain ⟨y, s, b0, d0, rfl, hY, hE, hyA, hs⟩ := hq2
    have zR := hX.below hb
    have yb : Below w.heap.size w w1 := below_trans (by (repeat' (first | (with_reducible assumption) | (with_reducible exact Below.refl _ _) | (with_reducible refine below_al ?_ _) | (with_reducible refine below_drewN ?_ _) | (with_reducible refine Below.drew ?_) | (with_reducible refine Below.alloc ?_ ?_ _) | (with_reducible refine Below.setCell ?_ ?_ _) | (refine below_trans ?_ (by assumption)) | go_size))) hb
    have HE := hid hE
    have HYA := hid hyA
    obtain ⟨x0, x1, x2, x3, k0, k1, k2, k3, f0, f1, f2, f3, s5⟩ := zR.cells
    clear hX hb hE hyA zR
    go_wp2_with fail
    refine bodyPost_ret (by simp [results, Tryz.results12, go_sem, k0, k1, k2, k3]; try rfl) rfl ?_
    refine ⟨_, rfl, ?_, (((yb.setCell (by first | omega | (simp; done) | (simp; omega)) _).setCell (by first | omega | (simp; done) | (simp; omega)) _).setCell (by first | omega | (simp; done) | (simp; omega)) _).setCell (by first | omega | (simp; done) | (simp; omega)) _⟩
    exact (show EX 3 w1 0 (fv x) 1200 _ from ⟨_, _, _, _, _, rfl, y, s, b0, d0, rfl, hY, HE.out, HYA.out, hs⟩).set4 s5 (by decide) _ _ _ _
theorem extSign_any (v : Value) (way : Int) (D : Dy) (w : World) (hv : EX 3 w way D 6000 v) (hw : way = 0 ∨ way = 1 ∨ way = -1) :
    Calls Tryz.prog 20 #[v] w fun e w' => e = .returned (.int .i64 (extS way D)) ∧ Below w.heap.size w w' := by
  obtain ⟨n, ao, l, c, t, rfl, hq⟩ := hv
  by_cases h0 : way = 0
  · subst h0
    rw [show extS 0 D = cmpD D (0, 0) from rfl]
    have QC := hid (fun (W : World) (a : QD 3 W D 6000 5900 (.agg #[.bool n, .slice ao l c, .int .i64 t])) => qcmp_any _ _ D (0, 0) 6000 5900 6000 5900 W a (qd_zero _ W 6000 5900) (by omega) (by omega) (by omega) (by omega))
    have qvv := hid hq
    generalize cmpD D (0, 0) = r at *
    clear hq hw
    go_enter Tryz.func20, Tryz.ntmps20
    go_wp2_with fail
    refine (QC.out _ (qvv.out.below (by (repeat' (first | (with_reducible assumption) | (with_reducible exact Below.refl _ _) | (with_reducible refine below_al ?_ _) | (with_reducible refine below_drewN ?_ _) | (with_reducible refine Below.drew ?_) | (with_reducible refine Below.alloc ?_ ?_ _) | (with_reducible refine Below.setCell ?_ ?_ _) | (refine below_trans ?_ (by assumption)) | go_size))))).mono ?_
    rintro e w2 ⟨rfl, hb2⟩
    go_wp2_with fail
    go_ret
    exact ⟨rfl, by (repeat' (first | (with_reducible assumption) | (with_reducible exact Below.refl _ _) | (with_reducible refine below_al ?_ _) | (with_reducible refine below_drewN ?_ _) | (with_reducible refine Below.drew ?_) | (with_reducible refine Below.alloc ?_ ?_ _) | (with_reducible refine Below.setCell ?_ ?_ _) | (refine below_trans ?_ (by assumption)) | go_size))⟩
  · have eb : (way != (0 : Int)) = true := by simpa using h0
    have hr : extS way D = way := by unfold extS; rw [if_pos h0]
    rw [hr]
    clear hr hq
    go_enter Tryz.func20, Tryz.ntmps20
    go_wp2_with fail
    go_ret
    exact ⟨rfl, by (repeat' (first | (with_reducible exact Below.refl _ _) | (with_reducible assumption) | (with_reducible refine below_drewN ?_ _) | (with_reducible refine Below.drew ?_) | (with_reducible refine Below.alloc ?_ ?_ _) | (with_reducible refine Below.setCell ?_ ?_ _) | go_size))⟩
theorem extCmpX_any (v u : Value) (w1 w2 : Int) (D E : Dy) (w : World) (hv : EX 3 w w1 D 6000 v) (hu : EX 3 w w2 E 6000 u) :
    Calls Tryz.prog 52 #[v, u] w fun e w' => e = .returned (.int .i64 (extC w1 D w2 E)) ∧ Below w.heap.size w w' := by
  obtain ⟨n, ao, l, c, t, rfl, hq⟩ := hv
  obtain ⟨m, bo, k, d, s, rfl, hp⟩ := hu
  have QC := hid (fun (W : World) (a : QD 3 W D 6000 5900 (.agg #[.bool n, .slice ao l c, .int .i64 t])) (b : QD 3 W E 6000 5900 (.agg #[.bool m, .slice bo k d, .int .i64 s])) => qcmp_any _ _ D E 6000 5900 6000 5900 W a b (by omega) (by omega) (by omega) (by omega))
  have qvv := hid hq
  have quu := hid hp
  obtain ⟨r, hr⟩ : ∃ r, r = extC w1 D w2 E := ⟨_, rfl⟩
  rw [← hr]
  clear hq hp
  by_cases h12 : w1 = w2
  · subst h12
    have eb2 : (w1 != w1) = false := by simp
    by_cases h0 : w1 = 0
    · subst h0
      have hr2 : r = cmpD D E := by rw [hr]; rfl
      subst hr2
      clear hr
      generalize cmpD D E = r at *
      go_enter Tryz.func52, Tryz.ntmps52
      go_wp2_with fail
      refine (QC.out _ (qvv.out.below (by (repeat' (first | (with_reducible assumption) | (with_reducible exact Below.refl _ _) | (with_reducible refine below_al ?_ _) | (with_reducible refine below_drewN ?_ _) | (with_reducible refine Below.drew ?_) | (with_reducible refine Below.alloc ?_ ?_ _) | (with_reducible refine Below.setCell ?_ ?_ _) | (refine below_trans ?_ (by assumption)) | go_size)))) (quu.out.below (by (repeat' (first | (with_reducible assumption) | (with_reducible exact Below.refl _ _) | (with_reducible refine below_al ?_ _) | (with_reducible refine below_drewN ?_ _) | (with_reducible refine Below.drew ?_) | (with_reducible refine Below.alloc ?_ ?_ _) | (with_reducible refine Below.setCell ?_ ?_ _) | (refine below_trans ?_ (by assumption)) | go_size))))).mono ?_
      rintro e w2 ⟨rfl, hb2⟩
      go_wp2_with fail
      go_ret
      exact ⟨rfl, by (repeat' (first | (with_reducible assumption) | (with_reducible exact Below.refl _ _) | (with_reducible refine below_al ?_ _) | (with_reducible refine below_drewN ?_ _) | (with_reducible refine Below.drew ?_) | (with_reducible refine Below.alloc ?_ ?_ _) | (with_reducible refine Below.setCell ?_ ?_ _) | (refine below_trans ?_ (by assumption)) | go_size))⟩
    · have eb : (w1 != (0 : Int)) = true := by simpa using h0
      have hr2 : r = 0 := by rw [hr]; unfold extC; rw [if_neg (by omega), if_pos h0]
      subst hr2
      clear hr QC qvv quu
      go_enter Tryz.func52, Tryz.ntmps52
      go_wp2_with fail
      go_ret
      exact ⟨rfl, by (repeat' (first | (with_reducible exact Below.refl _ _) | (with_reducible assumption) | (with_reducible refine below_drewN ?_ _) | (with_reducible refine Below.drew ?_) | (with_reducible refine Below.alloc ?_ ?_ _) | (with_reducible refine Below.setCell ?_ ?_ _) | go_size))⟩
  · have eb : (w1 != w2) = true := by simpa using h12
    by_cases hlt : w1 < w2
    · have hr2 : r = -1 := by rw [hr]; unfold extC; rw [if_pos h12, if_pos hlt]
      subst hr2
      clear hr QC qvv quu
      go_enter Tryz.func52, Tryz.ntmps52
      go_wp2_with fail
      go_ret
      exact ⟨rfl, by (repeat' (first | (with_reducible exact Below.refl _ _) | (with_reducible assumption) | (with_reducible refine below_drewN ?_ _) | (with_reducible refine Below.drew ?_) | (with_reducible refine Below.alloc ?_ ?_ _) | (with_reducible refine Below.setCell ?_ ?_ _) | go_size))⟩
    · have hr2 : r = 1 := by rw [hr]; unfold extC; rw [if_pos h12, if_neg hlt]
      subst hr2
      clear hr QC qvv quu
      go_enter Tryz.func52, Tryz.ntmps52
      go_wp2_with fail
      go_ret
      exact ⟨rfl, by (repeat' (first | (with_reducible exact Below.refl _ _) | (with_reducible assumption) | (with_reducible refine below_drewN ?_ _) | (with_reducible refine Below.drew ?_) | (with_reducible refine Below.alloc ?_ ?_ _) | (with_reducible refine Below.setCell ?_ ?_ _) | go_size))⟩
end Go.Proofs.YtfphmlmgjhebjaaGreatDoor

set_option linter.unusedVariables false
set_option linter.unusedSimpArgs false
namespace Go.Ulp
open Go.RowKit
theorem rX_none (mode : Int) : rX (0, 0) mode = 0 := by
  unfold rX
  rw [show decide ((0, (0 : Int)).1 < (0 : Int)) = false from rfl]
  show numX false 0 0 mode = 0
  unfold numX
  rw [show numR false 0 0 mode = 0 by unfold numR; rw [if_pos rfl]]
  unfold capX
  rw [if_neg (by omega)]; rfl
theorem val_kinds (x : Int) : (valB x = true → isNan x = false ∧ isInf x = false) ∧ (valB x = false → classOf x ≠ 5 → isNan x = false ∧ isInf x = true) := by
  have := class_bd x
  unfold valB isNan isInf
  refine ⟨fun h => ?_, fun h h5 => ?_⟩
  · have h := of_decide_eq_true h
    exact ⟨beq_eq_false_iff_ne.2 (by omega), beq_eq_false_iff_ne.2 (by omega)⟩
  · have h := of_decide_eq_false h
    exact ⟨beq_eq_false_iff_ne.2 h5, beq_iff_eq.2 (by omega)⟩
theorem sum2_any (p : Int → Bool) (l m : Nat) : anyTo p [l, m] [l, m].length = (p (l : Int) || p (m : Int)) := by
  show ((false || p (lb [l, m] 0)) || p (lb [l, m] 1)) = _
  rw [Bool.false_or]; rfl
theorem sum2_sum (l m : Nat) : sumTo [l, m] [l, m].length = uV (l : Int) + uV (m : Int) := by
  show 0 + uV (lb [l, m] 0) + uV (lb [l, m] 1) = _
  rw [Int.zero_add]; rfl
theorem add_out (l m : Nat) (hl : l < 18446744073709551616) (hm : m < 18446744073709551616) (cl : classOf (l : Int) ≠ 5) (cm : classOf (m : Int) ≠ 5)
    (hno : ¬ (isInf (l : Int) = true ∧ isInf (m : Int) = true ∧ negB (l : Int) ≠ negB (m : Int))) (mode : Int) :
    plainOf (sumX [l, m] mode) = outX (addW (exW (l : Int)) (exW (m : Int))) (addE (exW (l : Int)) (exD (l : Int)) (exW (m : Int)) (exD (m : Int))) mode := by
  obtain ⟨kl1, kl2⟩ := val_kinds (l : Int)
  obtain ⟨km1, km2⟩ := val_kinds (m : Int)
  unfold sumX sNan sInf
  rw [sum2_any, sum2_any, sum2_any]
  cases vl : valB (l : Int)
  · obtain ⟨a1, a2⟩ := kl2 vl cl
    have eW : exW (l : Int) = if negB (l : Int) = true then -1 else 1 := by unfold exW; rw [vl]; rfl
    have hW : addW (exW (l : Int)) (exW (m : Int)) = exW (l : Int) := by unfold addW; rw [if_pos (by rw [eW]; split <;> omega)]
    rw [hW]
    have mi : isNan (m : Int) = false := by
      cases vm : valB (m : Int)
      · exact (km2 vm cm).1
      · exact (km1 vm).1
    have pq : ∀ b, negB (l : Int) = b → isInf (m : Int) = true → negB (m : Int) = b := fun b h1 h2 => by
      rcases Classical.em (negB (l : Int) = negB (m : Int)) with h | h
      · rw [← h, h1]
      · exact absurd ⟨a2, h2, h⟩ hno
    unfold pInf mInf outX
    rw [a1, a2, mi]
    cases hb : negB (l : Int)
    · have : (isInf (m : Int) && negB (m : Int)) = false := by
        cases him : isInf (m : Int)
        · rfl
        · rw [pq false hb him]; rfl
      rw [this, eW, hb]
      rfl
    · have : (isInf (m : Int) && !negB (m : Int)) = false := by
        cases him : isInf (m : Int)
        · rfl
        · rw [pq true hb him]; rfl
      rw [this, eW, hb]
      cases (isInf (m : Int) && negB (m : Int)) <;> rfl
  · obtain ⟨a1, a2⟩ := kl1 vl
    have eW : exW (l : Int) = 0 := by unfold exW; rw [vl]; rfl
    have eD : exD (l : Int) = fv (l : Int) := by unfold exD; rw [vl]; rfl
    rw [eW, eD]
    cases vm : valB (m : Int)
    · obtain ⟨b1, b2⟩ := km2 vm cm
      have fW : exW (m : Int) = if negB (m : Int) = true then -1 else 1 := by unfold exW; rw [vm]; rfl
      have hW : addW 0 (exW (m : Int)) = exW (m : Int) := by unfold addW; rw [if_neg (fun h => h rfl)]
      rw [hW]
      unfold pInf mInf outX
      rw [a1, a2, b1, b2, fW]
      cases negB (m : Int) <;> rfl
    · obtain ⟨b1, b2⟩ := km1 vm
      have fW : exW (m : Int) = 0 := by unfold exW; rw [vm]; rfl
      have fD : exD (m : Int) = fv (m : Int) := by unfold exD; rw [vm]; rfl
      rw [fW, fD]
      have hD : addE 0 (fv (l : Int)) 0 (fv (m : Int)) = sDy [l, m] := by
        unfold addE sDy
        rw [if_neg (fun h => h rfl), if_neg (fun h => h rfl), sum2_sum, fv_uV _ (by omega) (by omega) (of_decide_eq_true vl), fv_uV _ (by omega) (by omega) (of_decide_eq_true vm), addD_step]
      rw [hD]
      unfold pInf mInf outX
      rw [a1, a2, b1, b2]
      have hw0 : ¬ addW 0 0 ≠ 0 := fun h => h rfl
      rw [if_neg hw0]
      rw [if_neg (by simp), if_neg (by simp)]
      by_cases hS : sumTo [l, m] [l, m].length ≠ 0
      · rw [if_pos hS]
      · rw [if_neg hS]
        have hS0 : sumTo [l, m] [l, m].length = 0 := by
          rcases Classical.em (sumTo [l, m] [l, m].length = 0) with h | h
          · exact h
          · exact absurd h hS
        have : sDy [l, m] = (0, 0) := by unfold sDy; rw [hS0]; rfl
        rw [this, rX_none]
        split
        · rfl
        · split
          · rfl
          · split <;> rfl
end Go.Ulp

set_option linter.unusedVariables false
set_option linter.unusedSimpArgs false
namespace Go.Ulp
open Go.RowKit
theorem rank_ranked (l : Int) (h0 : -9218868437227405312 ≤ l) (h1 : l ≤ 9218868437227405312) : rankOf (ranked l) = l := by
  unfold ranked rankOf
  split <;> split <;> omega
theorem rank_tell (b : Bool) (l : Int) (h0 : -9218868437227405312 ≤ l) (h1 : l ≤ 9218868437227405312) : rankOf (tellR b l) = l := by
  unfold tellR
  split
  · rename_i h; rw [h.1]; rfl
  · exact rank_ranked l h0 h1
theorem rnd_dn {s : Nat} {V x : Int} {ch : Bool} (h : Rnd s V 2 x ch) : ∃ l, IsLow (cR s V) l ∧ rankOf x = l := by
  obtain ⟨l, hl, ha⟩ := h
  have h9 := congrArg Prod.fst ha
  simp only at h9
  refine ⟨l, hl, ?_⟩
  obtain ⟨l1, l2, -, -⟩ := hl
  rw [h9]
  unfold ansR
  split
  · exact rank_ranked l l1 (by omega)
  · rw [if_neg (by unfold upR; simp)]
    exact rank_tell _ l l1 (by omega)
theorem rnd_up {s : Nat} {V x : Int} {ch : Bool} (h : Rnd s V 1 x ch) : ∃ l, IsLow (cR s V) l ∧ rankOf x = if -9218868437227405312 < l ∧ cR s V l = 0 then l else l + 1 := by
  obtain ⟨l, hl, ha⟩ := h
  have h9 := congrArg Prod.fst ha
  simp only at h9
  refine ⟨l, hl, ?_⟩
  obtain ⟨l1, l2, -, -⟩ := hl
  rw [h9]
  unfold ansR
  by_cases hc : -9218868437227405312 < l ∧ cR s V l = 0
  · rw [if_pos hc, if_pos hc]; exact rank_ranked l l1 (by omega)
  · rw [if_neg hc, if_neg hc, if_pos (by unfold upR; simp)]
    exact rank_tell _ (l + 1) (by omega) (by omega)
theorem low_mono {s : Nat} {V V' l l' : Int} (h : IsLow (cR s V) l) (h' : IsLow (cR s V') l') (hV : V ≤ V') : l ≤ l' := by
  rcases Int.lt_or_le l' l with h9 | h9
  · exfalso
    obtain ⟨a1, a2, a3, a4⟩ := h
    obtain ⟨b1, b2, b3, b4⟩ := h'
    have c1 : cR s V l ≤ 0 := by rcases a3 with k | k; omega; exact k
    have c2 : 0 < cR s V' (l' + 1) := by rcases b4 with k | k; omega; exact k
    unfold cR at c1 c2
    have d1 := (cmpI_le _ _).1 c1
    have d2 := (cmpI_gt _ _).1 c2
    have d3 := rT_le s (show l' + 1 ≤ l by omega)
    omega
  · exact h9
theorem rnd_dn_mono {s : Nat} {V V' x x' : Int} {c c' : Bool} (h : Rnd s V 2 x c) (h' : Rnd s V' 2 x' c') (hV : V ≤ V') : rankOf x ≤ rankOf x' := by
  obtain ⟨l, hl, e⟩ := rnd_dn h
  obtain ⟨l', hl', e'⟩ := rnd_dn h'
  rw [e, e']
  exact low_mono hl hl' hV
theorem rnd_up_mono {s : Nat} {V V' x x' : Int} {c c' : Bool} (h : Rnd s V 1 x c) (h' : Rnd s V' 1 x' c') (hV : V ≤ V') : rankOf x ≤ rankOf x' := by
  obtain ⟨l, hl, e⟩ := rnd_up h
  obtain ⟨l', hl', e'⟩ := rnd_up h'
  have hm := low_mono hl hl' hV
  rw [e, e']
  by_cases hlt : l < l'
  · split <;> split <;> omega
  · have he : l = l' := by omega
    subst he
    by_cases hc' : -9218868437227405312 < l ∧ cR s V' l = 0
    · have hc : cR s V l = 0 := by
        have k1 : cR s V l ≤ 0 := by rcases hl.2.2.1 with k | k; omega; exact k
        have k2 := hc'.2
        unfold cR at k1 k2 ⊢
        have d1 := (cmpI_le _ _).1 k1
        have d2 := (cmpI_eq_zero _ _).1 k2
        exact (cmpI_eq_zero _ _).2 (by omega)
      rw [if_pos hc', if_pos ⟨hc'.1, hc⟩]; omega
    · rw [if_neg hc']; split <;> omega
theorem rX_rnd (D : Dy) (s : Nat) (hs : 0 ≤ D.2 + 1074 + s) (mode : Int) (m0 : 0 ≤ mode) (m1 : mode ≤ 4) : Rnd s (D.1 * pw (D.2 + 1074 + s).toNat) mode (rX D mode) (rC D mode) := by
  have h := number_rnd (decide (D.1 < 0)) D.1.natAbs D.2 mode s m0 m1 (fun h => decide_eq_false (by omega)) hs
  have e : sg (decide (D.1 < 0)) ((D.1.natAbs * 2 ^ (D.2 + 1074 + s).toNat : Nat) : Int) = D.1 * pw (D.2 + 1074 + s).toNat := by
    rw [Int.natCast_mul, ← pw_nat]
    unfold sg
    by_cases hn : D.1 < 0
    · rw [decide_eq_true hn, if_pos rfl, ← Int.neg_mul]; congr 1; omega
    · rw [decide_eq_false hn, if_neg (by decide)]; congr 1; omega
  rw [e] at h
  exact h
theorem rX_mono (D E : Dy) (hD : IsN D) (hE : IsN E) (h : cmpD D E ≤ 0) (mode : Int) (hm : mode = 1 ∨ mode = 2) : rankOf (rX D mode) ≤ rankOf (rX E mode) := by
  obtain ⟨s, hs1, hs2⟩ : ∃ s : Nat, 0 ≤ D.2 + 1074 + s ∧ 0 ≤ E.2 + 1074 + s := ⟨(-D.2).toNat + (-E.2).toNat, by omega, by omega⟩
  have r1 := rX_rnd D s hs1 mode (by omega) (by omega)
  have r2 := rX_rnd E s hs2 mode (by omega) (by omega)
  have hV : D.1 * pw (D.2 + 1074 + s).toNat ≤ E.1 * pw (E.2 + 1074 + s).toNat := by
    have hc := cmp_nrm D.1 D.2 E.1 E.2 (-(1074 + (s : Int))) (.inl (by omega)) (.inl (by omega))
    rw [nrm_of_isN D hD, nrm_of_isN E hE] at hc
    rw [← hc] at h
    have h2 := (cmpI_le _ _).1 h
    unfold sc at h2
    rw [show (D.2 - -(1074 + (s : Int))).toNat = (D.2 + 1074 + s).toNat by omega, show (E.2 - -(1074 + (s : Int))).toNat = (E.2 + 1074 + s).toNat by omega] at h2
    exact h2
  rcases hm with e | e <;> subst e
  · exact rnd_up_mono r1 r2 hV
  · exact rnd_dn_mono r1 r2 hV
end Go.Ulp

set_option linter.unusedVariables false
set_option linter.unusedSimpArgs false
namespace Go.Proofs.YtfphmlmgjhebjaaGreatDoor
open Go.RowKit Go.Ulp
set_option linter.unusedVariables false
set_option linter.unusedSimpArgs false
set_option maxHeartbeats 2000000
set_option maxRecDepth 100000
/-- two ends as arguments, and the result's cell -/
theorem extAdd_any (v u : Value) (w1 w2 : Int) (D E : Dy) (w : World) (hv : EX 3 w w1 D 1200 v) (hu : EX 3 w w2 E 1200 u) :
    Calls Tryz.prog 17 #[v, u] w fun e w' => ∃ r, e = .returned r ∧ EX 3 w' (addW w1 w2) (addE w1 D w2 E) 6000 r ∧ Below w.heap.size w w' := by
  obtain ⟨n, ao, l, c, t, rfl, hq⟩ := hv
  obtain ⟨m, bo, k, d, s, rfl, hp⟩ := hu
  have hne : (35 : TypeId) ≠ 3 := by decide
  by_cases h1 : w1 = 0
  · have e1 : (w1 != (0 : Int)) = false := by simpa using h1
    by_cases h2 : w2 = 0
    · have e2 : (w2 != (0 : Int)) = false := by simpa using h2
      have eW : addW w1 w2 = 0 := by unfold addW; rw [if_neg (fun h => h h1)]; exact h2
      have eE : addE w1 D w2 E = addD D E := by unfold addE; rw [if_neg (fun h => h h1), if_neg (fun h => h h2)]
      rw [eW, eE]
      have QA := hid (fun (W : World) (a : QD 3 W D 1200 1100 (.agg #[.bool n, .slice ao l c, .int .i64 t])) (b : QD 3 W E 1200 1100 (.agg #[.bool m, .slice bo k d, .int .i64 s])) => qadd_any _ _ D E 1200 1100 1200 1100 W a b (by omega) (by omega) (by omega) (by omega))
      clear eW eE e1 e2
      subst h1
      subst h2
      go_enter Tryz.func17, Tryz.ntmps17
      go_upto_region 1 with fail
      refine wp_worldS (fun WW => Below w.heap.size w WW ∧ XV WW w.heap.size (.bool n) (.slice ao l c) (.int .i64 t) (.int .i64 0) ∧ XV WW (w.heap.size + 1) (.bool m) (.slice bo k d) (.int .i64 s) (.int .i64 0) ∧ E0 35 WW (w.heap.size + 1 + 1)) ⟨by (repeat' (first | (with_reducible assumption) | (with_reducible exact Below.refl _ _) | (with_reducible refine below_al ?_ _) | (with_reducible refine below_drewN ?_ _) | (with_reducible refine Below.drew ?_) | (with_reducible refine Below.alloc ?_ ?_ _) | (with_reducible refine Below.setCell ?_ ?_ _) | (refine below_trans ?_ (by assumption)) | go_size)), ((XV.made9 rfl).alloc _).alloc _, (XV.made9 (by first | omega | (simp; done) | (simp; omega))).alloc _, E0.made9 rfl (by first | omega | (simp; done) | (simp; omega))⟩ ?_
      intro W1 ⟨y1, zA, zB, zR⟩
      obtain ⟨gA, hgA⟩ : ∃ g, g = w.heap.size := ⟨_, rfl⟩
      obtain ⟨gB, hgB⟩ : ∃ g, g = w.heap.size + 1 := ⟨_, rfl⟩
      obtain ⟨gR, hgR⟩ : ∃ g, g = w.heap.size + 1 + 1 := ⟨_, rfl⟩
      have bR : w.heap.size ≤ gR := by omega
      rw [← hgR] at zR ⊢
      rw [← hgB] at zB ⊢
      rw [← hgA] at zA ⊢
      clear hgA hgB hgR
      replace hq := hq.below y1
      replace hp := hp.below y1
      obtain ⟨a0, a1, a2, a3⟩ := id zA
      obtain ⟨b0, b1, b2, b3⟩ := id zB
      obtain ⟨x0, x1, x2, x3, k0, k1, k2, k3, f0, f1, f2, f3, s5⟩ := zR.cells
      have HQ := hid hq
      have HP := hid hp
      have HZR := hid zR
      clear hq hp zR zA zB x0 x1 x2 x3 k0 k1 k2 k3 f0 f1 f2 f3 s5
      go_wp2_with (go_at_call 60; (with_reducible refine (QA.out _ HQ.out HP.out).mono ?_); rintro en w9 ⟨v9, rfl, hq9, hb9⟩; obtain ⟨y, s9, b9, d9, rfl, hY, hE, hyA, hs⟩ := hq9.weak (A' := 6000) (T' := 5900) (by omega) (by omega); have HQ9 := hid (And.intro hY (And.intro hE (And.intro hyA hs))); clear hY hE hyA hs hq9; obtain ⟨x0, x1, x2, x3, k0, k1, k2, k3, f0, f1, f2, f3, s5⟩ := (HZR.out.below hb9).cells)
      refine bodyPost_ret (by simp [results, Tryz.results17, go_sem, k0, k1, k2, k3]; try rfl) rfl ?_
      refine ⟨_, rfl, ?_, (below_trans y1 hb9).set4 bR _ _ _ _⟩
      obtain ⟨hY, hE, hyA, hs⟩ := HQ9.out
      exact (show EX 3 w9 0 (addD D E) 6000 _ from ⟨_, _, _, _, _, rfl, y, s9, b9, d9, rfl, hY, hE, hyA, hs⟩).set4 s5 hne _ _ _ _
    · have e2 : (w2 != (0 : Int)) = true := by simpa using h2
      have eW : addW w1 w2 = w2 := by unfold addW; rw [if_neg (fun h => h h1)]
      have eE : addE w1 D w2 E = E := by unfold addE; rw [if_neg (fun h => h h1), if_pos h2]
      rw [eW, eE]
      clear eW eE e1
      subst h1
      go_enter Tryz.func17, Tryz.ntmps17
      go_upto_region 1 with fail
      refine wp_worldS (fun WW => Below w.heap.size w WW ∧ XV WW w.heap.size (.bool n) (.slice ao l c) (.int .i64 t) (.int .i64 0) ∧ XV WW (w.heap.size + 1) (.bool m) (.slice bo k d) (.int .i64 s) (.int .i64 w2) ∧ E0 35 WW (w.heap.size + 1 + 1)) ⟨by (repeat' (first | (with_reducible assumption) | (with_reducible exact Below.refl _ _) | (with_reducible refine below_al ?_ _) | (with_reducible refine below_drewN ?_ _) | (with_reducible refine Below.drew ?_) | (with_reducible refine Below.alloc ?_ ?_ _) | (with_reducible refine Below.setCell ?_ ?_ _) | (refine below_trans ?_ (by assumption)) | go_size)), ((XV.made9 rfl).alloc _).alloc _, (XV.made9 (by first | omega | (simp; done) | (simp; omega))).alloc _, E0.made9 rfl (by first | omega | (simp; done) | (simp; omega))⟩ ?_
      intro W1 ⟨y1, zA, zB, zR⟩
      obtain ⟨gA, hgA⟩ : ∃ g, g = w.heap.size := ⟨_, rfl⟩
      obtain ⟨gB, hgB⟩ : ∃ g, g = w.heap.size + 1 := ⟨_, rfl⟩
      obtain ⟨gR, hgR⟩ : ∃ g, g = w.heap.size + 1 + 1 := ⟨_, rfl⟩
      have bR : w.heap.size ≤ gR := by omega
      rw [← hgR] at zR ⊢
      rw [← hgB] at zB ⊢
      rw [← hgA] at zA ⊢
      clear hgA hgB hgR
      replace hq := hq.below y1
      replace hp := hp.below y1
      obtain ⟨a0, a1, a2, a3⟩ := id zA
      obtain ⟨b0, b1, b2, b3⟩ := id zB
      obtain ⟨x0, x1, x2, x3, k0, k1, k2, k3, f0, f1, f2, f3, s5⟩ := zR.cells
      have HP := hid hp
      have HS := hid s5
      clear hq hp zR zA zB s5
      go_wp2_with fail
      refine bodyPost_ret (by simp [results, Tryz.results17, go_sem, k0, k1, k2, k3]; try rfl) rfl ?_
      exact ⟨_, rfl, ((show EX 3 W1 w2 E 1200 _ from ⟨_, _, _, _, _, rfl, HP.out⟩).weak (by omega)).set4 HS.out hne _ _ _ _, y1.set4 bR _ _ _ _⟩
  · have e1 : (w1 != (0 : Int)) = true := by simpa using h1
    have eW : addW w1 w2 = w1 := by unfold addW; rw [if_pos h1]
    have eE : addE w1 D w2 E = D := by unfold addE; rw [if_pos h1]
    rw [eW, eE]
    clear eW eE
    go_enter Tryz.func17, Tryz.ntmps17
    go_upto_region 1 with fail
    refine wp_worldS (fun WW => Below w.heap.size w WW ∧ XV WW w.heap.size (.bool n) (.slice ao l c) (.int .i64 t) (.int .i64 w1) ∧ XV WW (w.heap.size + 1) (.bool m) (.slice bo k d) (.int .i64 s) (.int .i64 w2) ∧ E0 35 WW (w.heap.size + 1 + 1)) ⟨by (repeat' (first | (with_reducible assumption) | (with_reducible exact Below.refl _ _) | (with_reducible refine below_al ?_ _) | (with_reducible refine below_drewN ?_ _) | (with_reducible refine Below.drew ?_) | (with_reducible refine Below.alloc ?_ ?_ _) | (with_reducible refine Below.setCell ?_ ?_ _) | (refine below_trans ?_ (by assumption)) | go_size)), ((XV.made9 rfl).alloc _).alloc _, (XV.made9 (by first | omega | (simp; done) | (simp; omega))).alloc _, E0.made9 rfl (by first | omega | (simp; done) | (simp; omega))⟩ ?_
    intro W1 ⟨y1, zA, zB, zR⟩
    obtain ⟨gA, hgA⟩ : ∃ g, g = w.heap.size := ⟨_, rfl⟩
    obtain ⟨gB, hgB⟩ : ∃ g, g = w.heap.size + 1 := ⟨_, rfl⟩
    obtain ⟨gR, hgR⟩ : ∃ g, g = w.heap.size + 1 + 1 := ⟨_, rfl⟩
    have bR : w.heap.size ≤ gR := by omega
    rw [← hgR] at zR ⊢
    rw [← hgB] at zB ⊢
    rw [← hgA] at zA ⊢
    clear hgA hgB hgR
    replace hq := hq.below y1
    replace hp := hp.below y1
    obtain ⟨a0, a1, a2, a3⟩ := id zA
    obtain ⟨b0, b1, b2, b3⟩ := id zB
    obtain ⟨x0, x1, x2, x3, k0, k1, k2, k3, f0, f1, f2, f3, s5⟩ := zR.cells
    have HP := hid hq
    have HS := hid s5
    clear hq hp zR zA zB s5
    go_wp2_with fail
    refine bodyPost_ret (by simp [results, Tryz.results17, go_sem, k0, k1, k2, k3]; try rfl) rfl ?_
    exact ⟨_, rfl, ((show EX 3 W1 w1 D 1200 _ from ⟨_, _, _, _, _, rfl, HP.out⟩).weak (by omega)).set4 HS.out hne _ _ _ _, y1.set4 bR _ _ _ _⟩
theorem cmpD_three (D E : Dy) : cmpD D E = -1 ∨ cmpD D E = 0 ∨ cmpD D E = 1 := by
  unfold cmpD cmpI
  split
  · exact .inl rfl
  · split
    · exact .inr (.inr rfl)
    · exact .inr (.inl rfl)
theorem extS_three {way : Int} (D : Dy) (hw : way = 0 ∨ way = 1 ∨ way = -1) : extS way D = -1 ∨ extS way D = 0 ∨ extS way D = 1 := by
  unfold extS
  split
  · omega
  · exact cmpD_three D (0, 0)
theorem extMul_any (v u : Value) (w1 w2 : Int) (D E : Dy) (w : World) (hv : EX 3 w w1 D 1200 v) (hu : EX 3 w w2 E 1200 u) (hw1 : w1 = 0 ∨ w1 = 1 ∨ w1 = -1) (hw2 : w2 = 0 ∨ w2 = 1 ∨ w2 = -1) :
    Calls Tryz.prog 19 #[v, u] w fun e w' => ∃ r, e = .returned r ∧ EX 3 w' (mulW w1 D w2 E) (mulE w1 D w2 E) 6000 r ∧ Below w.heap.size w w' := by
  obtain ⟨n, ao, l, c, t, rfl, hq⟩ := hv
  obtain ⟨m, bo, k, d, s, rfl, hp⟩ := hu
  have hne : (35 : TypeId) ≠ 3 := by decide
  have ES1 := hid (fun (W : World) (a : EX 3 W w1 D 6000 (.agg #[.bool n, .slice ao l c, .int .i64 t, .int .i64 w1])) => extSign_any _ w1 D W a hw1)
  have ES2 := hid (fun (W : World) (a : EX 3 W w2 E 6000 (.agg #[.bool m, .slice bo k d, .int .i64 s, .int .i64 w2])) => extSign_any _ w2 E W a hw2)
  have q1 := extS_three D hw1
  have q2 := extS_three E hw2
  have QM := hid (fun (W : World) (a : QD 3 W D 1200 1100 (.agg #[.bool n, .slice ao l c, .int .i64 t])) (b : QD 3 W E 1200 1100 (.agg #[.bool m, .slice bo k d, .int .i64 s])) => qmul_any _ _ D E 1200 1100 1200 1100 W a b (by omega) (by omega) (by omega) (by omega))
  obtain ⟨RW, hRW⟩ : ∃ x, x = mulW w1 D w2 E := ⟨_, rfl⟩
  obtain ⟨RE, hRE⟩ : ∃ x, x = mulE w1 D w2 E := ⟨_, rfl⟩
  have hW : RW = if extS w1 D * extS w2 E = 0 then 0 else if w1 ≠ 0 ∨ w2 ≠ 0 then extS w1 D * extS w2 E else 0 := hRW
  have hE2 : RE = if extS w1 D * extS w2 E = 0 then (0, 0) else if w1 ≠ 0 ∨ w2 ≠ 0 then (0, 0) else mulD D E := hRE
  rw [← hRW, ← hRE]
  clear hRW hRE
  obtain ⟨S1, hS1⟩ : ∃ x, x = extS w1 D := ⟨_, rfl⟩
  obtain ⟨S2, hS2⟩ : ∃ x, x = extS w2 E := ⟨_, rfl⟩
  rw [← hS1] at ES1 q1 hW hE2
  rw [← hS2] at ES2 q2 hW hE2
  have hwp : IntKind.i64.wrap (S1 * S2) = S1 * S2 := by
    refine IntWalk.i64_in _ ?_
    rcases q1 with e | e | e <;> rcases q2 with e' | e' | e' <;> subst e <;> subst e' <;> decide
  clear hS1 hS2 q1 q2 hw1 hw2
  go_enter Tryz.func19, Tryz.ntmps19
  go_upto_region 1 with fail
  refine wp_worldS (fun WW => Below w.heap.size w WW ∧ XV WW w.heap.size (.bool n) (.slice ao l c) (.int .i64 t) (.int .i64 w1) ∧ XV WW (w.heap.size + 1) (.bool m) (.slice bo k d) (.int .i64 s) (.int .i64 w2) ∧ E0 35 WW (w.heap.size + 1 + 1)) ⟨by (repeat' (first | (with_reducible assumption) | (with_reducible exact Below.refl _ _) | (with_reducible refine below_al ?_ _) | (with_reducible refine below_drewN ?_ _) | (with_reducible refine Below.drew ?_) | (with_reducible refine Below.alloc ?_ ?_ _) | (with_reducible refine Below.setCell ?_ ?_ _) | (refine below_trans ?_ (by assumption)) | go_size)), ((XV.made9 rfl).alloc _).alloc _, (XV.made9 (by first | omega | (simp; done) | (simp; omega))).alloc _, E0.made9 rfl (by first | omega | (simp; done) | (simp; omega))⟩ ?_
  intro W1 ⟨y1, zA, zB, zR⟩
  obtain ⟨gA, hgA⟩ : ∃ g, g = w.heap.size := ⟨_, rfl⟩
  obtain ⟨gB, hgB⟩ : ∃ g, g = w.heap.size + 1 := ⟨_, rfl⟩
  obtain ⟨gR, hgR⟩ : ∃ g, g = w.heap.size + 1 + 1 := ⟨_, rfl⟩
  have bR : w.heap.size ≤ gR := by omega
  rw [← hgR] at zR ⊢
  rw [← hgB] at zB ⊢
  rw [← hgA] at zA ⊢
  clear hgA hgB hgR
  replace hq := hq.below y1
  replace hp := hp.below y1
  obtain ⟨a0, a1, a2, a3⟩ := id zA
  obtain ⟨b0, b1, b2, b3⟩ := id zB
  obtain ⟨x0, x1, x2, x3, k0, k1, k2, k3, f0, f1, f2, f3, s5⟩ := zR.cells
  have HQ := hid hq
  have HP := hid hp
  have HA := hid (show EX 3 W1 w1 D 6000 (.agg #[.bool n, .slice ao l c, .int .i64 t, .int .i64 w1]) from (show EX 3 W1 w1 D 1200 _ from ⟨_, _, _, _, _, rfl, hq⟩).weak (by omega))
  have HB := hid (show EX 3 W1 w2 E 6000 (.agg #[.bool m, .slice bo k d, .int .i64 s, .int .i64 w2]) from (show EX 3 W1 w2 E 1200 _ from ⟨_, _, _, _, _, rfl, hp⟩).weak (by omega))
  clear hq hp a0 a1 a2 a3 b0 b1 b2 b3 x0 x1 x2 x3 k0 k1 k2 k3 f0 f1 f2 f3 s5
  have HW := hid hW
  have HE2 := hid hE2
  clear hW hE2
  refine wp_region_grow 5 [6, 7, 8, 9, 10] [Fact.is (.agg #[.bool n, .slice ao l c, .int .i64 t, .int .i64 w1]), Fact.is (.int .i64 S1), Fact.is (.agg #[.bool m, .slice bo k d, .int .i64 s, .int .i64 w2]), Fact.is (.int .i64 S2), Fact.is (.int .i64 (S1 * S2))] (by kernel_rfl) (by kernel_rfl) ⟨?o0, ?o1, ?o2, ?o3, ?o4, trivial⟩ ?after
  case o0 => (refine StepOK.plain rfl ?_; intro ρ w1 R hρ hb hp hR; have e2 : ρ (.tmp 2) = .pointer (some ⟨gA, 0, none⟩) := hρ.tmp 2 rfl; obtain ⟨j0, j1, j2, j3⟩ := zA.below hb; have hcon := hρ.con; have hfn := hρ.fn; clear hρ hp; unfold OpRun; go_simp; exact hR _ _ (Below.refl _ _) rfl)
  case o1 => (refine StepOK.plain rfl ?_; intro ρ w1 R hρ hb hp hR; have e6 : ρ (.tmp 6) = _ := hp 0 6 rfl rfl; have hcon := hρ.con; have hfn := hρ.fn; clear hρ hp; unfold OpRun; go_simp; (refine (ES1.out _ (HA.out.below hb)).mono ?_; rintro e wn ⟨rfl, hbn⟩; exact ⟨_, rfl, hR _ _ hbn rfl⟩))
  case o2 => (refine StepOK.plain rfl ?_; intro ρ w1 R hρ hb hp hR; have e3 : ρ (.tmp 3) = .pointer (some ⟨gB, 0, none⟩) := hρ.tmp 3 rfl; obtain ⟨j0, j1, j2, j3⟩ := zB.below hb; have hcon := hρ.con; have hfn := hρ.fn; clear hρ hp; unfold OpRun; go_simp; exact hR _ _ (Below.refl _ _) rfl)
  case o3 => (refine StepOK.plain rfl ?_; intro ρ w1 R hρ hb hp hR; have e8 : ρ (.tmp 8) = _ := hp 2 8 rfl rfl; have hcon := hρ.con; have hfn := hρ.fn; clear hρ hp; unfold OpRun; go_simp; (refine (ES2.out _ (HB.out.below hb)).mono ?_; rintro e wn ⟨rfl, hbn⟩; exact ⟨_, rfl, hR _ _ hbn rfl⟩))
  case o4 => (refine StepOK.plain rfl ?_; intro ρ w1 R hρ hb hp hR; have e7 : ρ (.tmp 7) = _ := hp 1 7 rfl rfl; have e9 : ρ (.tmp 9) = _ := hp 3 9 rfl rfl; have hcon := hρ.con; have hfn := hρ.fn; clear hρ hp; unfold OpRun; go_simp; exact hR _ _ (Below.refl _ _) rfl)
  case after =>
    intro u wn hb hf
    have e10 : u 10 = _ := hf 4 10 (by omega) rfl
    clear hf
    simp only [putAll, Act.put, List.setIfInBounds_toArray, List.set_cons_zero, List.set_cons_succ, List.drop_succ_cons, List.drop_zero, List.drop_nil]
    rw [e10]
    have y2 := below_trans y1 hb
    obtain ⟨a0, a1, a2, a3⟩ := zA.below hb
    obtain ⟨b0, b1, b2, b3⟩ := zB.below hb
    have HZR := hid (zR.below hb)
    have HQ2 := hid (HQ.out.below hb)
    have HP2 := hid (HP.out.below hb)
    obtain ⟨W2, hW2⟩ : ∃ W, W = wn := ⟨_, rfl⟩
    subst hW2
    clear zA zB zR hb y1 HA HB ES1 ES2 HQ HP hwp
    obtain ⟨S, hS⟩ : ∃ S, S = S1 * S2 := ⟨_, rfl⟩
    have HW2 := HW.out
    have HE3 := HE2.out
    rw [← hS] at HW2 HE3
    rw [← hS]
    clear HW HE2 hS
    by_cases h0 : S = 0
    · have eW : RW = 0 := by rw [HW2, if_pos h0]
      have eE : RE = (0, 0) := by rw [HE3, if_pos h0]
      subst h0 eW eE
      obtain ⟨x0, x1, x2, x3, k0, k1, k2, k3, f0, f1, f2, f3, s5⟩ := HZR.out.cells
      have HS5 := hid s5
      clear HW2 HE3 QM s5
      go_wp2_with fail
      refine bodyPost_ret (by simp [results, Tryz.results19, go_sem, k0, k1, k2, k3]; try rfl) rfl ?_
      exact ⟨_, rfl, (show EX 3 W2 0 (0, 0) 6000 _ from ⟨_, _, _, _, _, rfl, qd_zero _ _ _ _⟩).set4 HS5.out hne _ _ _ _, y2.set4 bR _ _ _ _⟩
    · have b0 : (S == (0 : Int)) = false := by simpa using h0
      by_cases h12 : w1 ≠ 0 ∨ w2 ≠ 0
      · have eW : RW = S := by rw [HW2, if_neg h0, if_pos h12]
        have eE : RE = (0, 0) := by rw [HE3, if_neg h0, if_pos h12]
        subst eE
        subst eW
        obtain ⟨x0, x1, x2, x3, k0, k1, k2, k3, f0, f1, f2, f3, s5⟩ := HZR.out.cells
        have HS5 := hid s5
        clear HW2 HE3 QM s5
        by_cases h1 : w1 = 0
        · have e1 : (w1 != (0 : Int)) = false := by simpa using h1
          have e2 : (w2 != (0 : Int)) = true := by
            rcases h12 with h | h
            · exact absurd h1 h
            · simpa using h
          clear h12
          go_wp2_with fail
          refine bodyPost_ret (by simp [results, Tryz.results19, go_sem, k0, k1, k2, k3]; try rfl) rfl ?_
          exact ⟨_, rfl, (show EX 3 W2 _ (0, 0) 6000 _ from ⟨_, _, _, _, _, rfl, qd_zero _ _ _ _⟩).set4 HS5.out hne _ _ _ _, y2.set4 bR _ _ _ _⟩
        · have e1 : (w1 != (0 : Int)) = true := by simpa using h1
          clear h12
          go_wp2_with fail
          refine bodyPost_ret (by simp [results, Tryz.results19, go_sem, k0, k1, k2, k3]; try rfl) rfl ?_
          exact ⟨_, rfl, (show EX 3 W2 _ (0, 0) 6000 _ from ⟨_, _, _, _, _, rfl, qd_zero _ _ _ _⟩).set4 HS5.out hne _ _ _ _, y2.set4 bR _ _ _ _⟩
      · have h1 : w1 = 0 := by
          rcases Classical.em (w1 = 0) with h | h
          · exact h
          · exact absurd (.inl h) h12
        have h2 : w2 = 0 := by
          rcases Classical.em (w2 = 0) with h | h
          · exact h
          · exact absurd (.inr h) h12
        have e1 : (w1 != (0 : Int)) = false := by simpa using h1
        have e2 : (w2 != (0 : Int)) = false := by simpa using h2
        have eW : RW = 0 := by rw [HW2, if_neg h0, if_neg h12]
        have eE : RE = mulD D E := by rw [HE3, if_neg h0, if_neg h12]
        subst eW
        subst eE
        clear HW2 HE3 h12 h1 h2
        go_wp2_with (go_at_call 61; (with_reducible refine (QM.out _ HQ2.out HP2.out).mono ?_); rintro en w9 ⟨v9, rfl, hq9, hb9⟩; obtain ⟨y, s9, b9, d9, rfl, hY, hE, hyA, hs⟩ := hq9.weak (A' := 6000) (T' := 5900) (by omega) (by omega); have HQ9 := hid (And.intro hY (And.intro hE (And.intro hyA hs))); clear hY hE hyA hs hq9; obtain ⟨x0, x1, x2, x3, k0, k1, k2, k3, f0, f1, f2, f3, s5⟩ := (HZR.out.below hb9).cells)
        refine bodyPost_ret (by simp [results, Tryz.results19, go_sem, k0, k1, k2, k3]; try rfl) rfl ?_
        refine ⟨_, rfl, ?_, (below_trans y2 hb9).set4 bR _ _ _ _⟩
        obtain ⟨hY, hE, hyA, hs⟩ := HQ9.out
        exact (show EX 3 w9 0 (mulD D E) 6000 _ from ⟨_, _, _, _, _, rfl, y, s9, b9, d9, rfl, hY, hE, hyA, hs⟩).set4 s5 hne _ _ _ _
end Go.Proofs.YtfphmlmgjhebjaaGreatDoor

set_option linter.unusedVariables false
set_option linter.unusedSimpArgs false
namespace Go.Ulp
open Go.RowKit
def sgO (x : Int) : Int := if negB x = true ∧ zeroB x = false then 9223372036854775808 else 0
theorem outward_num (x : Int) (hx : U64 x) : x % 9223372036854775808 + sgO x = plainOf x := by
  have h := minus_zero x hx.1 hx.2
  obtain ⟨h0, h1⟩ := hx
  unfold sgO plainOf
  by_cases hz : x = 9223372036854775808
  · rw [decide_eq_true hz, Bool.and_eq_true] at h
    rw [if_pos hz, if_neg (fun k => by rw [h.1] at k; cases k.2)]
    omega
  · rw [decide_eq_false hz] at h
    rw [if_neg hz]
    by_cases hn : 9223372036854775808 ≤ x
    · have e : negB x = true := by unfold negB; exact decide_eq_true hn
      rw [e, Bool.and_true] at h
      rw [if_pos ⟨e, h⟩]; omega
    · have e : negB x = false := by unfold negB; exact decide_eq_false hn
      rw [if_neg (fun k => by rw [e] at k; cases k.1)]; omega
end Go.Ulp
namespace Go.Proofs.YtfphmlmgjhebjaaGreatDoor
open Go.RowKit Go.Ulp
set_option linter.unusedVariables false
set_option linter.unusedSimpArgs false
set_option maxHeartbeats 2000000
set_option maxRecDepth 100000
theorem signOf_any (x : Int) (hx : U64 x) (w : World) :
    Calls Tryz.prog 59 #[.int .u64 x] w fun e w' => e = .returned (.int .u64 (sgO x)) ∧ w = w' := by
  have M := hid (fun w => minus_any' x w)
  have Z := hid (fun w => isZeroS_any x hx w)
  have HS : sgO x = if negB x = true ∧ zeroB x = false then 9223372036854775808 else 0 := rfl
  rw [HS]
  generalize negB x = a at *
  generalize zeroB x = b at *
  clear HS
  cases a
  all_goals
    cases b
    all_goals
      go_enter Tryz.func59, Tryz.ntmps59
      go_wp2_with (first | (go_at_call 51; (with_reducible refine (M.out _).mono ?_); rintro en w1 ⟨rfl, rfl⟩) | (go_at_call 50; (with_reducible refine (Z.out _).mono ?_); rintro en w1 ⟨rfl, rfl⟩))
      go_ret
      exact ⟨rfl, rfl⟩
theorem outward_any (v : Value) (way : Int) (D : Dy) (mode : Int) (w : World) (hv : EX 3 w way D 6000 v) (hw : way = 0 ∨ way = 1 ∨ way = -1) (hI : IsN D) (m0 : 0 ≤ mode) (m1 : mode ≤ 4) :
    Calls Tryz.prog 16 #[v, .int .i64 mode] w fun e w' => e = .returned (.int .u64 (outX way D mode)) ∧ Below w.heap.size w w' := by
  obtain ⟨n, ao, l, c, t, rfl, hq⟩ := hv
  by_cases h0 : way = 0
  · subst h0
    have RD := hid (fun (W : World) (a : QD 3 W D 6000 5900 (.agg #[.bool n, .slice ao l c, .int .i64 t])) => roundedD_any _ D 6000 5900 mode W a hI (by omega) (by omega) m0 m1)
    have hb := rX_bd D mode
    have hS := outward_num (rX D mode) hb
    have SO := hid (fun w => signOf_any (rX D mode) hb w)
    rw [show outX 0 D mode = plainOf (rX D mode) from rfl]
    obtain ⟨X, hX⟩ : ∃ X, X = rX D mode := ⟨_, rfl⟩
    rw [← hX] at RD hb hS SO ⊢
    obtain ⟨G, hG⟩ : ∃ G, G = sgO X := ⟨_, rfl⟩
    have hG2 : G = 0 ∨ G = 9223372036854775808 := by rw [hG]; unfold sgO; split; exact .inr rfl; exact .inl rfl
    rw [← hG] at hS SO
    have hwp : IntKind.u64.wrap (X.tmod 9223372036854775808 + G) = plainOf X := by rw [Int.tmod_eq_emod_of_nonneg hb.1, IntKind.wrap_u64, hS]; rw [← hS]; omega
    generalize plainOf X = R at *
    generalize rC D mode = C at *
    have HQ := hid hq
    clear hX hG hq hb hS hw hI m0 m1 hG2
    go_enter Tryz.func16, Tryz.ntmps16
    go_wp2_with (first
      | (go_at_call 58; (with_reducible refine (RD.out _ (HQ.out.below (by (repeat' (first | (with_reducible assumption) | (with_reducible exact Below.refl _ _) | (with_reducible refine below_al ?_ _) | (with_reducible refine below_drewN ?_ _) | (with_reducible refine Below.drew ?_) | (with_reducible refine Below.alloc ?_ ?_ _) | (with_reducible refine Below.setCell ?_ ?_ _) | (refine below_trans ?_ (by assumption)) | go_size))))).mono ?_); rintro en w2 ⟨rfl, hb2⟩)
      | (go_at_call 59; (with_reducible refine (SO.out _).mono ?_); rintro en w3 ⟨rfl, rfl⟩))
    go_ret
    exact ⟨rfl, by (repeat' (first | (with_reducible assumption) | (with_reducible exact Below.refl _ _) | (with_reducible refine below_al ?_ _) | (with_reducible refine below_drewN ?_ _) | (with_reducible refine Below.drew ?_) | (with_reducible refine Below.alloc ?_ ?_ _) | (with_reducible refine Below.setCell ?_ ?_ _) | (refine below_trans ?_ (by assumption)) | go_size))⟩
  · have eb : (way != (0 : Int)) = true := by simpa using h0
    have hr : outX way D mode = 9218868437227405312 + sgb (decide (way < 0)) := by unfold outX; rw [if_pos h0]
    rw [hr]
    have SG := hid (fun w => rSigned_any 9218868437227405312 (by omega) (by omega) (decide (way < 0)) w)
    have IB := hid (fun w => rInfBits_any w)
    generalize 9218868437227405312 + sgb (decide (way < 0)) = R at *
    clear hr hq hw hI
    go_enter Tryz.func16, Tryz.ntmps16
    go_upto_region 1 with fail
    refine wp_worldS (fun WW => Below w.heap.size w WW ∧ XV WW w.heap.size (.bool n) (.slice ao l c) (.int .i64 t) (.int .i64 way)) ⟨by (repeat' (first | (with_reducible assumption) | (with_reducible exact Below.refl _ _) | (with_reducible refine below_al ?_ _) | (with_reducible refine below_drewN ?_ _) | (with_reducible refine Below.drew ?_) | (with_reducible refine Below.alloc ?_ ?_ _) | (with_reducible refine Below.setCell ?_ ?_ _) | (refine below_trans ?_ (by assumption)) | go_size)), XV.made9 rfl⟩ ?_
    intro W1 ⟨y1, zA⟩
    obtain ⟨gA, hgA⟩ : ∃ g, g = w.heap.size := ⟨_, rfl⟩
    rw [← hgA] at zA ⊢
    clear hgA
    obtain ⟨a0, a1, a2, a3⟩ := id zA
    go_upto_region 2 with fail
    refine wp_region_grow 5 [10, 11, 12, 13, 14] [Fact.is (.int .u64 9218868437227405312), Fact.is (.pointer (some ⟨gA, 3, none⟩)), Fact.is (.int .i64 way), Fact.is (.bool (decide (way < 0))), Fact.is (.int .u64 R)] (by kernel_rfl) (by kernel_rfl) ⟨?o0, ?o1, ?o2, ?o3, ?o4, trivial⟩ ?after
    case o0 => (refine StepOK.plain rfl ?_; intro ρ w1 R hρ hb hp hR; have hcon := hρ.con; have hfn := hρ.fn; clear hρ hp; unfold OpRun; go_simp; (refine (IB.out _).mono ?_; rintro e wn ⟨rfl, rfl⟩; exact ⟨_, rfl, hR _ _ (Below.refl _ _) rfl⟩))
    case o1 => (refine StepOK.plain rfl ?_; intro ρ w1 R hρ hb hp hR; have e2 : ρ (.tmp 2) = .pointer (some ⟨gA, 0, none⟩) := hρ.tmp 2 rfl; have hcon := hρ.con; have hfn := hρ.fn; clear hρ hp; unfold OpRun; go_simp; exact hR _ _ (Below.refl _ _) rfl)
    case o2 => (refine StepOK.plain rfl ?_; intro ρ w1 R hρ hb hp hR; have e11 : ρ (.tmp 11) = _ := hp 1 11 rfl rfl; obtain ⟨j0, j1, j2, j3⟩ := zA.below hb; have hcon := hρ.con; have hfn := hρ.fn; clear hρ hp; unfold OpRun; go_simp; exact hR _ _ (Below.refl _ _) rfl)
    case o3 => (refine StepOK.plain rfl ?_; intro ρ w1 R hρ hb hp hR; have e12 : ρ (.tmp 12) = _ := hp 2 12 rfl rfl; have hcon := hρ.con; have hfn := hρ.fn; clear hρ hp; unfold OpRun; go_simp; exact hR _ _ (Below.refl _ _) rfl)
    case o4 => (refine StepOK.plain rfl ?_; intro ρ w1 R hρ hb hp hR; have e10 : ρ (.tmp 10) = _ := hp 0 10 rfl rfl; have e13 : ρ (.tmp 13) = _ := hp 3 13 rfl rfl; have hcon := hρ.con; have hfn := hρ.fn; clear hρ hp; unfold OpRun; go_simp; (refine (SG.out _).mono ?_; rintro e wn ⟨rfl, rfl⟩; exact ⟨_, rfl, hR _ _ (Below.refl _ _) rfl⟩))
    case after =>
      intro u wn hb hf
      have e14 : u 14 = _ := hf 4 14 (by omega) rfl
      clear hf
      simp only [putAll, Act.put, List.setIfInBounds_toArray, List.set_cons_zero, List.set_cons_succ, List.drop_succ_cons, List.drop_zero, List.drop_nil]
      rw [e14]
      have y2 := below_trans y1 hb
      clear zA hb a0 a1 a2 a3
      go_wp2_with fail
      go_ret
      exact ⟨rfl, y2⟩
end Go.Proofs.YtfphmlmgjhebjaaGreatDoor

set_option linter.unusedVariables false
set_option linter.unusedSimpArgs false
namespace Go.Proofs.YtfphmlmgjhebjaaGreatDoor
open Go.RowKit Go.Ulp
set_option linter.unusedVariables false
set_option linter.unusedSimpArgs false
set_option maxHeartbeats 2000000
set_option maxRecDepth 100000
theorem turned_any (v : Value) (way : Int) (D : Dy) (w : World) (hv : EX 3 w way D 1200 v) (hw : way = 0 ∨ way = 1 ∨ way = -1) :
    Calls Tryz.prog 13 #[v] w fun e w' => ∃ r, e = .returned r ∧ EX 3 w' (-way) (negD D) 1200 r ∧ Below w.heap.size w w' := by
  obtain ⟨n, ao, l, c, t, rfl, hq⟩ := hv
  have hne : (35 : TypeId) ≠ 3 := by decide
  have QN := hid (fun (W : World) (a : QD 3 W D 1200 1100 (.agg #[.bool n, .slice ao l c, .int .i64 t])) => qneg_any _ D 1200 1100 W a (by omega) (by omega))
  have hwp : IntKind.i64.wrap (-way) = -way := IntWalk.i64_in _ (by omega)
  clear hw
  go_enter Tryz.func13, Tryz.ntmps13
  go_upto_region 1 with fail
  refine wp_worldS (fun WW => Below w.heap.size w WW ∧ XV WW w.heap.size (.bool n) (.slice ao l c) (.int .i64 t) (.int .i64 way) ∧ E0 35 WW (w.heap.size + 1)) ⟨by (repeat' (first | (with_reducible assumption) | (with_reducible exact Below.refl _ _) | (with_reducible refine below_al ?_ _) | (with_reducible refine below_drewN ?_ _) | (with_reducible refine Below.drew ?_) | (with_reducible refine Below.alloc ?_ ?_ _) | (with_reducible refine Below.setCell ?_ ?_ _) | (refine below_trans ?_ (by assumption)) | go_size)), (XV.made9 rfl).alloc _, E0.made9 rfl (by first | omega | (simp; done) | (simp; omega))⟩ ?_
  intro W1 ⟨y1, zA, zR⟩
  obtain ⟨gA, hgA⟩ : ∃ g, g = w.heap.size := ⟨_, rfl⟩
  obtain ⟨gR, hgR⟩ : ∃ g, g = w.heap.size + 1 := ⟨_, rfl⟩
  have bR : w.heap.size ≤ gR := by omega
  rw [← hgR] at zR ⊢
  rw [← hgA] at zA ⊢
  clear hgA hgR
  have HQ := hid (hq.below y1)
  clear hq
  refine wp_region_grow 7 [3, 4, 5, 6, 7, 8, 9] [Fact.is (.pointer (some ⟨gA, 0, none⟩)), Fact.is (.agg #[.bool n, .slice ao l c, .int .i64 t]), Fact.q 3 (negD D) 1200 1100, Fact.is (.pointer (some ⟨gA, 3, none⟩)), Fact.is (.int .i64 way), Fact.is (.int .i64 (-way)), Fact.ex 3 (-way) (negD D) 1200] (by kernel_rfl) (by kernel_rfl) ⟨?o0, ?o1, ?o2, ?o3, ?o4, ?o5, ?o6, trivial⟩ ?after
  case o0 => (refine StepOK.plain rfl ?_; intro ρ w1 R hρ hb hp hR; have e1 : ρ (.tmp 1) = .pointer (some ⟨gA, 0, none⟩) := hρ.tmp 1 rfl; have hcon := hρ.con; have hfn := hρ.fn; clear hρ hp; unfold OpRun; go_simp; exact hR _ _ (Below.refl _ _) rfl)
  case o1 => (refine StepOK.plain rfl ?_; intro ρ w1 R hρ hb hp hR; have e3 : ρ (.tmp 3) = _ := hp 0 3 rfl rfl; obtain ⟨j0, j1, j2, j3⟩ := zA.below hb; have hcon := hρ.con; have hfn := hρ.fn; clear hρ hp; unfold OpRun; go_simp; exact hR _ _ (Below.refl _ _) rfl)
  case o2 => (refine StepOK.plain rfl ?_; intro ρ w1 R hρ hb hp hR; have e4 : ρ (.tmp 4) = _ := hp 1 4 rfl rfl; have hcon := hρ.con; have hfn := hρ.fn; clear hρ hp; unfold OpRun; go_simp; (refine (QN.out _ (HQ.out.below hb)).mono ?_; rintro e wn ⟨v9, rfl, hv9, hbn⟩; exact ⟨_, rfl, hR _ _ hbn hv9⟩))
  case o3 => (refine StepOK.plain rfl ?_; intro ρ w1 R hρ hb hp hR; have e1 : ρ (.tmp 1) = .pointer (some ⟨gA, 0, none⟩) := hρ.tmp 1 rfl; have hcon := hρ.con; have hfn := hρ.fn; clear hρ hp; unfold OpRun; go_simp; exact hR _ _ (Below.refl _ _) rfl)
  case o4 => (refine StepOK.plain rfl ?_; intro ρ w1 R hρ hb hp hR; have e6 : ρ (.tmp 6) = _ := hp 3 6 rfl rfl; obtain ⟨j0, j1, j2, j3⟩ := zA.below hb; have hcon := hρ.con; have hfn := hρ.fn; clear hρ hp; unfold OpRun; go_simp; exact hR _ _ (Below.refl _ _) rfl)
  case o5 => (refine StepOK.plain rfl ?_; intro ρ w1 R hρ hb hp hR; have e7 : ρ (.tmp 7) = _ := hp 4 7 rfl rfl; have hcon := hρ.con; have hfn := hρ.fn; clear hρ hp; unfold OpRun; go_simp; exact hR _ _ (Below.refl _ _) rfl)
  case o6 => (refine StepOK.plain rfl ?_; intro ρ w1 R hρ hb hp hR; have f5 := hp 2 5 rfl rfl; have e8 : ρ (.tmp 8) = _ := hp 5 8 rfl rfl; obtain ⟨x9, n9, ao9, cp9, e5, h5⟩ := f5; have hcon := hρ.con; have hfn := hρ.fn; clear hρ hp; unfold OpRun; go_simp; exact hR _ _ (Below.refl _ _) ⟨_, _, _, _, _, rfl, x9, n9, ao9, cp9, rfl, h5⟩)
  case after =>
    intro u wn hb hf
    have f9 := hf 6 9 (by omega) rfl
    clear hf
    simp only [putAll, Act.put, List.setIfInBounds_toArray, List.set_cons_zero, List.set_cons_succ, List.drop_succ_cons, List.drop_zero, List.drop_nil]
    have y2 := below_trans y1 hb
    obtain ⟨n9, ao9, l9, c9, t9, e9, q9⟩ := f9
    obtain ⟨x0, x1, x2, x3, k0, k1, k2, k3, f0, f1, f2, f3, s5⟩ := (zR.below hb).cells
    have HQ9 := hid q9
    rw [e9]
    have HS5 := hid s5
    clear zA zR hb q9 s5 e9
    go_wp2_with fail
    refine bodyPost_ret (by simp [results, Tryz.results13, go_sem, k0, k1, k2, k3]; try rfl) rfl ?_
    exact ⟨_, rfl, (show EX 3 wn (-way) (negD D) 1200 _ from ⟨_, _, _, _, _, rfl, HQ9.out⟩).set4 HS5.out hne _ _ _ _, y2.set4 bR _ _ _ _⟩
theorem outC_any (v u : Value) (w1 w2 : Int) (D E : Dy) (w : World) (hv : EX 3 w w1 D 6000 v) (hu : EX 3 w w2 E 6000 u) (hw1 : w1 = 0 ∨ w1 = 1 ∨ w1 = -1) (hw2 : w2 = 0 ∨ w2 = 1 ∨ w2 = -1) (hI : IsN D) (hJ : IsN E) :
    Calls Tryz.prog 15 #[v, u] w fun e w' => e = .returned (.agg #[.int .u64 (outX w1 D 2), .int .u64 (outX w2 E 1)]) ∧ Below w.heap.size w w' := by
  obtain ⟨n, ao, l, c, t, rfl, hq⟩ := hv
  obtain ⟨m, bo, k, d, s, rfl, hp⟩ := hu
  have O1 := hid (fun (W : World) (a : EX 3 W w1 D 6000 (.agg #[.bool n, .slice ao l c, .int .i64 t, .int .i64 w1])) => outward_any _ w1 D 2 W a hw1 hI (by omega) (by omega))
  have O2 := hid (fun (W : World) (a : EX 3 W w2 E 6000 (.agg #[.bool m, .slice bo k d, .int .i64 s, .int .i64 w2])) => outward_any _ w2 E 1 W a hw2 hJ (by omega) (by omega))
  obtain ⟨X, hX⟩ : ∃ X, X = outX w1 D 2 := ⟨_, rfl⟩
  obtain ⟨Y, hY⟩ : ∃ X, X = outX w2 E 1 := ⟨_, rfl⟩
  rw [← hX] at O1 ⊢
  rw [← hY] at O2 ⊢
  clear hX hY hw1 hw2 hI hJ
  go_enter Tryz.func15, Tryz.ntmps15
  go_upto_region 1 with fail
  refine wp_worldS (fun WW => Below w.heap.size w WW ∧ XV WW w.heap.size (.bool n) (.slice ao l c) (.int .i64 t) (.int .i64 w1) ∧ XV WW (w.heap.size + 1) (.bool m) (.slice bo k d) (.int .i64 s) (.int .i64 w2) ∧ SV WW (w.heap.size + 1 + 1) 0 0) ⟨by (repeat' (first | (with_reducible assumption) | (with_reducible exact Below.refl _ _) | (with_reducible refine below_al ?_ _) | (with_reducible refine below_drewN ?_ _) | (with_reducible refine Below.drew ?_) | (with_reducible refine Below.alloc ?_ ?_ _) | (with_reducible refine Below.setCell ?_ ?_ _) | (refine below_trans ?_ (by assumption)) | go_size)), ((XV.made9 rfl).alloc _).alloc _, (XV.made9 (by first | omega | (simp; done) | (simp; omega))).alloc _, SV.made (by first | omega | (simp; done) | (simp; omega))⟩ ?_
  intro W1 ⟨y1, zA, zB, zR⟩
  obtain ⟨gA, hgA⟩ : ∃ g, g = w.heap.size := ⟨_, rfl⟩
  obtain ⟨gB, hgB⟩ : ∃ g, g = w.heap.size + 1 := ⟨_, rfl⟩
  obtain ⟨gR, hgR⟩ : ∃ g, g = w.heap.size + 1 + 1 := ⟨_, rfl⟩
  have bR : w.heap.size ≤ gR := by omega
  rw [← hgR] at zR ⊢
  rw [← hgB] at zB ⊢
  rw [← hgA] at zA ⊢
  clear hgA hgB hgR
  have HA := hid (show EX 3 W1 w1 D 6000 (.agg #[.bool n, .slice ao l c, .int .i64 t, .int .i64 w1]) from ⟨_, _, _, _, _, rfl, hq.below y1⟩)
  have HB := hid (show EX 3 W1 w2 E 6000 (.agg #[.bool m, .slice bo k d, .int .i64 s, .int .i64 w2]) from ⟨_, _, _, _, _, rfl, hp.below y1⟩)
  clear hq hp
  refine wp_region_grow 5 [5, 6, 7, 8, 9] [Fact.is (.agg #[.bool n, .slice ao l c, .int .i64 t, .int .i64 w1]), Fact.is (.int .u64 X), Fact.is (.agg #[.bool m, .slice bo k d, .int .i64 s, .int .i64 w2]), Fact.is (.int .u64 Y), Fact.is (.agg #[.int .u64 X, .int .u64 Y])] (by kernel_rfl) (by kernel_rfl) ⟨?o0, ?o1, ?o2, ?o3, ?o4, trivial⟩ ?after
  case o0 => (refine StepOK.plain rfl ?_; intro ρ w1 R hρ hb hp hR; have e2 : ρ (.tmp 2) = .pointer (some ⟨gA, 0, none⟩) := hρ.tmp 2 rfl; obtain ⟨j0, j1, j2, j3⟩ := zA.below hb; have hcon := hρ.con; have hfn := hρ.fn; clear hρ hp; unfold OpRun; go_simp; exact hR _ _ (Below.refl _ _) rfl)
  case o1 => (refine StepOK.plain rfl ?_; intro ρ w1 R hρ hb hp hR; have e5 : ρ (.tmp 5) = _ := hp 0 5 rfl rfl; have hcon := hρ.con; have hfn := hρ.fn; clear hρ hp; unfold OpRun; go_simp; (refine (O1.out _ (HA.out.below hb)).mono ?_; rintro e wn ⟨rfl, hbn⟩; exact ⟨_, rfl, hR _ _ hbn rfl⟩))
  case o2 => (refine StepOK.plain rfl ?_; intro ρ w1 R hρ hb hp hR; have e3 : ρ (.tmp 3) = .pointer (some ⟨gB, 0, none⟩) := hρ.tmp 3 rfl; obtain ⟨j0, j1, j2, j3⟩ := zB.below hb; have hcon := hρ.con; have hfn := hρ.fn; clear hρ hp; unfold OpRun; go_simp; exact hR _ _ (Below.refl _ _) rfl)
  case o3 => (refine StepOK.plain rfl ?_; intro ρ w1 R hρ hb hp hR; have e7 : ρ (.tmp 7) = _ := hp 2 7 rfl rfl; have hcon := hρ.con; have hfn := hρ.fn; clear hρ hp; unfold OpRun; go_simp; (refine (O2.out _ (HB.out.below hb)).mono ?_; rintro e wn ⟨rfl, hbn⟩; exact ⟨_, rfl, hR _ _ hbn rfl⟩))
  case o4 => (refine StepOK.plain rfl ?_; intro ρ w1 R hρ hb hp hR; have e6 : ρ (.tmp 6) = _ := hp 1 6 rfl rfl; have e8 : ρ (.tmp 8) = _ := hp 3 8 rfl rfl; have hcon := hρ.con; have hfn := hρ.fn; clear hρ hp; unfold OpRun; go_simp; exact hR _ _ (Below.refl _ _) rfl)
  case after =>
    intro u wn hb hf
    have e9 : u 9 = _ := hf 4 9 (by omega) rfl
    clear hf
    simp only [putAll, Act.put, List.setIfInBounds_toArray, List.set_cons_zero, List.set_cons_succ, List.drop_succ_cons, List.drop_zero, List.drop_nil]
    rw [e9]
    have y2 := below_trans y1 hb
    obtain ⟨k0, k1, f0, f1⟩ := zR.below hb
    clear zA zB zR hb y1
    go_wp2_with fail
    refine bodyPost_ret (by simp [results, Tryz.results15, go_sem, k0, k1]; try rfl) rfl ?_
    exact ⟨rfl, by (repeat' (first | (with_reducible assumption) | (with_reducible exact Below.refl _ _) | (with_reducible refine below_al ?_ _) | (with_reducible refine below_drewN ?_ _) | (with_reducible refine Below.drew ?_) | (with_reducible refine Below.alloc ?_ ?_ _) | (with_reducible refine Below.setCell ?_ ?_ _) | (refine below_trans ?_ (by assumption)) | go_size))⟩
end Go.Proofs.YtfphmlmgjhebjaaGreatDoor
