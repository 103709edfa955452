/- The ends of spans, as the reference has them. -/
import Derived.Test.YtdoiobdomngccaaSp2
import Derived.Test.YtdoiobdomngccaaQ5
import Derived.Test.YtdoiobdomngccaaRegZ
import Derived.Deep.DeepCutAuto
import Derived.Deep.CutBlock
set_option linter.unusedVariables false
set_option linter.unusedSimpArgs false
namespace Go.Ulp
open Go.RowKit
def nanB (x : Int) : Bool := decide (classOf x = 5)
def infB (x : Int) : Bool := decide (classOf x = 4)
def zeroB (x : Int) : Bool := decide (classOf x = 1)
def valB (x : Int) : Bool := decide (classOf x < 4)
/-- a value that is the end of a span: a number, or without an end -/
def ED (ti : TypeId) (w : World) (x : Int) (v : Value) : Prop :=
  ∃ n ao l c t way, v = .agg #[.bool n, .slice ao l c, .int .i64 t, .int .i64 way] ∧
    ((valB x = true ∧ way = 0 ∧ QD ti w (fv x) 1200 1100 (.agg #[.bool n, .slice ao l c, .int .i64 t])) ∨ (valB x = false ∧ way = if negB x then -1 else 1))
theorem ED.below {ti : TypeId} {w w' : World} {x : Int} {v : Value} (h : ED ti w x v) (hb : Below w.heap.size w w') : ED ti w' x v := by
  obtain ⟨n, ao, l, c, t, way, h1, h2⟩ := h
  refine ⟨n, ao, l, c, t, way, h1, ?_⟩
  rcases h2 with ⟨h2, h3, h4⟩ | h2
  · exact .inl ⟨h2, h3, h4.below hb⟩
  · exact .inr h2
def Fact.e (ti : TypeId) (x : Int) : Fact := ⟨fun v w => ED ti w x v, fun _ _ _ h hb => h.below hb⟩
theorem inf_rank (x : Int) (h0 : 0 ≤ x) (h1 : x < 18446744073709551616) (hn : classOf x ≠ 5) (hv : valB x = false) : rankOf x = if negB x then -9218868437227405312 else 9218868437227405312 := by
  have a := class_nan x h0 h1
  have b := class_val x h0 h1
  have c := class_bd x
  unfold valB at hv
  have hv' : ¬ classOf x < 4 := by simpa using hv
  unfold absOf at a b
  unfold rankOf negB
  by_cases hc : 9223372036854775808 ≤ x
  · rw [if_pos hc, if_pos (by simpa using hc)]; omega
  · rw [if_neg hc, if_neg (by simpa using hc)]; omega
theorem val_rank (x : Int) (h0 : 0 ≤ x) (h1 : x < 18446744073709551616) (hv : valB x = true) : -9218868437227405312 < rankOf x ∧ rankOf x < 9218868437227405312 := by
  have b := class_val x h0 h1
  unfold valB at hv
  have hv' : classOf x < 4 := by simpa using hv
  unfold absOf at b
  unfold rankOf
  split <;> omega
theorem hasVal_valB (x : Int) (h0 : 0 ≤ x) (h1 : x < 18446744073709551616) : hasVal x = valB x := by
  have b := class_val x h0 h1
  unfold hasVal valB; unfold absOf at b
  rw [Bool.eq_iff_iff]; simp; omega
theorem zero_iff (x : Int) (h0 : 0 ≤ x) (h1 : x < 18446744073709551616) : classOf x = 1 ↔ absOf x = 0 := by
  have b1 := expOf_bd x
  have b2 := fracOf_bd x
  unfold classOf absOf
  have e : expOf x * 4503599627370496 + fracOf x = x % 9223372036854775808 := by unfold expOf fracOf; omega
  split
  · split <;> omega
  · split
    · omega
    · split <;> omega
theorem minus_zero (x : Int) (h0 : 0 ≤ x) (h1 : x < 18446744073709551616) : (zeroB x && negB x) = decide (x = 9223372036854775808) := by
  have := zero_iff x h0 h1
  unfold zeroB negB; unfold absOf at this
  rw [Bool.eq_iff_iff]; simp; omega
end Go.Ulp
namespace Go.Proofs.Ytdoiobdomngccaa
open Go.RowKit Go.Ulp
set_option linter.unusedVariables false
set_option linter.unusedSimpArgs false
set_option maxHeartbeats 1000000
set_option maxRecDepth 100000
theorem isNan_any (x : Int) (hx : U64 x) (w : World) : Calls Try.prog 97 #[.int .u64 x] w fun e w' => e = .returned (.bool (nanB x)) ∧ w = w' := by
  go_enter Try.func97, Try.ntmps97
  go_wp2_with (go_at_call 14; refine (classOf_any x hx.1 hx.2 _).mono ?_; rintro e w' ⟨rfl, rfl⟩)
  go_ret
  exact ⟨ret_bool (by unfold nanB; first | rfl | (rw [Bool.eq_iff_iff]; simp)), rfl⟩
theorem isInf_any (x : Int) (hx : U64 x) (w : World) : Calls Try.prog 99 #[.int .u64 x] w fun e w' => e = .returned (.bool (infB x)) ∧ w = w' := by
  go_enter Try.func99, Try.ntmps99
  go_wp2_with (go_at_call 14; refine (classOf_any x hx.1 hx.2 _).mono ?_; rintro e w' ⟨rfl, rfl⟩)
  go_ret
  exact ⟨ret_bool (by unfold infB; first | rfl | (rw [Bool.eq_iff_iff]; simp)), rfl⟩
theorem isZero_any (x : Int) (hx : U64 x) (w : World) : Calls Try.prog 51 #[.int .u64 x] w fun e w' => e = .returned (.bool (zeroB x)) ∧ w = w' := by
  go_enter Try.func51, Try.ntmps51
  go_wp2_with (go_at_call 14; refine (classOf_any x hx.1 hx.2 _).mono ?_; rintro e w' ⟨rfl, rfl⟩)
  go_ret
  exact ⟨ret_bool (by unfold zeroB; first | rfl | (rw [Bool.eq_iff_iff]; simp)), rfl⟩
theorem rHasValue_any (x : Int) (hx : U64 x) (w : World) : Calls Try.prog 50 #[.int .u64 x] w fun e w' => e = .returned (.bool (valB x)) ∧ w = w' := by
  go_enter Try.func50, Try.ntmps50
  go_wp2_with (go_at_call 14; refine (classOf_any x hx.1 hx.2 _).mono ?_; rintro e w' ⟨rfl, rfl⟩)
  go_ret
  exact ⟨ret_bool (by unfold valB; first | rfl | (rw [Bool.eq_iff_iff]; simp)), rfl⟩
theorem minus_any' (x : Int) (w : World) : Calls Try.prog 98 #[.int .u64 x] w fun e w' => e = .returned (.bool (negB x)) ∧ w = w' := by
  go_enter Try.func98, Try.ntmps98
  go_wp2_with fail
  go_ret
  exact ⟨ret_bool (by unfold negB; rfl), rfl⟩
theorem extOf_any (x : Int) (hx : U64 x) (hn : nanB x = false) (w : World) :
    Calls Try.prog 52 #[.int .u64 x] w fun e w' => ∃ v, e = .returned v ∧ ED 3 w' x v ∧ Below w.heap.size w w' := by
  have I := hid (fun w => isInf_any x hx w)
  have M := hid (fun w => minus_any' x w)
  have V := hid (fun w => qval_any x hx.1 hx.2 w)
  have hiv : infB x = !valB x := by
    have := class_bd x
    unfold nanB at hn; unfold infB valB
    have : classOf x ≠ 5 := by simpa using hn
    rw [Bool.eq_iff_iff]; simp; omega
  cases hv : valB x
  · rw [hv] at hiv
    rw [hiv] at I
    have hvv := hid hv
    clear hv hiv hn
    cases hg : negB x
    all_goals
      rw [hg] at M
      have hgg := hid hg
      clear hg
      go_enter Try.func52, Try.ntmps52
      go_wp2_with (first | (go_at_call 99; refine (I.out _).mono ?_; rintro e w' ⟨rfl, rfl⟩) | (go_at_call 98; refine (M.out _).mono ?_; rintro e w' ⟨rfl, rfl⟩))
      refine bodyPost_ret (by simp [results, Try.results52, go_sem]; try rfl) rfl ?_
      exact ⟨_, rfl, ⟨_, _, _, _, _, _, rfl, .inr ⟨hvv.out, by rw [hgg.out]; rfl⟩⟩, by (repeat' (first | (with_reducible exact Below.refl _ _) | (with_reducible assumption) | (with_reducible refine below_drewN ?_ _) | (with_reducible refine Below.drew ?_) | (with_reducible refine Below.alloc ?_ ?_ _) | (with_reducible refine Below.setCell ?_ ?_ _) | go_size))⟩
  · rw [hv] at hiv
    rw [hiv] at I
    have hvv := hid hv
    clear hv hiv hn
    go_enter Try.func52, Try.ntmps52
    go_wp2_with (first | (go_at_call 99; refine (I.out _).mono ?_; rintro e w' ⟨rfl, rfl⟩))
    have hX0 : QL 75 (w.alloc (.cells #[.bool false, .slice none 0 0, .int .i64 0, .int .i64 0] 75)) w.heap.size false (.slice none 0 0) 0 := by
      refine ⟨⟨?_, ?_, ?_, ?_, ElemIs.made _ _ _⟩, ?_, ?_⟩
      · rw [World.cell?_alloc_at (hn := rfl)]; rfl
      · rw [World.cell?_alloc_at (hn := rfl)]; rfl
      · unfold World.frozen?; rw [heap_alloc_new]; simp
      · unfold World.frozen?; rw [heap_alloc_new]; simp
      · rw [World.cell?_alloc_at (hn := rfl)]; rfl
      · unfold World.frozen?; rw [heap_alloc_new]; simp
    have hX3 : (w.alloc (.cells #[.bool false, .slice none 0 0, .int .i64 0, .int .i64 0] 75)).cell? ⟨w.heap.size, 3, none⟩ = some (.int .i64 0) := by rw [World.cell?_alloc_at (hn := rfl)]; rfl
    have hX4 : (w.alloc (.cells #[.bool false, .slice none 0 0, .int .i64 0, .int .i64 0] 75)).frozen? ⟨w.heap.size, 3, none⟩ = false := by unfold World.frozen?; rw [heap_alloc_new]; simp
    refine (V.out _).mono ?_
    rintro e w1 ⟨v1, rfl, ⟨y, s, b0, d0, rfl, hY, hE, hyA, hs⟩, hb⟩
    have k3 := (hb.cell (p := ⟨w.heap.size, 3, none⟩) (by simp)).trans hX3
    have f3 := (hb.frozen (p := ⟨w.heap.size, 3, none⟩) (by simp)).trans hX4
    have zR := hX0.below hb
    have yb : Below w.heap.size w w1 := below_trans (by (repeat' (first | (with_reducible assumption) | (with_reducible exact Below.refl _ _) | (with_reducible refine below_al ?_ _) | (with_reducible refine below_drewN ?_ _) | (with_reducible refine Below.drew ?_) | (with_reducible refine Below.alloc ?_ ?_ _) | (with_reducible refine Below.setCell ?_ ?_ _) | (refine below_trans ?_ (by assumption)) | go_size))) hb
    have HE := hid hE
    have HYA := hid hyA
    clear hX0 hX3 hX4 hb hE hyA
    obtain ⟨⟨k0, k1, f0, f1, hs2⟩, k2, f2⟩ := zR
    go_wp2_with fail
    refine bodyPost_ret (by simp [results, Try.results52, go_sem, k0, k1, k2, k3]; try rfl) rfl ?_
    refine ⟨_, rfl, ⟨_, _, _, _, _, _, rfl, .inl ⟨hvv.out, rfl, _, _, _, _, rfl, ?_, HE.out, HYA.out, hs⟩⟩, (((yb.setCell (by first | omega | (simp; done) | (simp; omega)) _).setCell (by first | omega | (simp; done) | (simp; omega)) _).setCell (by first | omega | (simp; done) | (simp; omega)) _).setCell (by first | omega | (simp; done) | (simp; omega)) _⟩
    exact (((hY.setCell hs2 (by decide) _ _).setCell (hs2.setCell _ _) (by decide) _ _).setCell ((hs2.setCell _ _).setCell _ _) (by decide) _ _).setCell (((hs2.setCell _ _).setCell _ _).setCell _ _) (by decide) _ _
theorem extCmp_any (v u : Value) (x y : Int) (hx : U64 x) (hy : U64 y) (nx : nanB x = false) (ny : nanB y = false) (w : World) (hv : ED 3 w x v) (hu : ED 3 w y u) :
    Calls Try.prog 53 #[v, u] w fun e w' => e = .returned (.int .i64 (cmpI (rankOf x) (rankOf y))) ∧ Below w.heap.size w w' := by
  have cx : classOf x ≠ 5 := by unfold nanB at nx; simpa using nx
  have cy : classOf y ≠ 5 := by unfold nanB at ny; simpa using ny
  have ix := inf_rank x hx.1 hx.2 cx
  have iy := inf_rank y hy.1 hy.2 cy
  have vx := val_rank x hx.1 hx.2
  have vy := val_rank y hy.1 hy.2
  have hc := cmp_fv x y hx.1 hx.2 hy.1 hy.2
  obtain ⟨n, ao, l, c, t, way, rfl, hvv⟩ := hv
  obtain ⟨m, bo, k, d, s, wby, rfl, huu⟩ := hu
  obtain ⟨r, hr⟩ : ∃ r, r = cmpI (rankOf x) (rankOf y) := ⟨_, rfl⟩
  rw [← hr]
  rcases hvv with ⟨v1, rfl, qv⟩ | ⟨v1, v2⟩
  · have bx := vx v1
    rcases huu with ⟨u1, rfl, qu⟩ | ⟨u1, u2⟩
    · have QC := hid (fun (W : World) (a : QD 3 W (fv x) 1200 1100 (.agg #[.bool n, .slice ao l c, .int .i64 t])) (b : QD 3 W (fv y) 1200 1100 (.agg #[.bool m, .slice bo k d, .int .i64 s])) => qcmp_any _ _ (fv x) (fv y) 1200 1100 1200 1100 W a b (by omega) (by omega) (by omega) (by omega))
      rw [hc, ← hr] at QC
      have qvv := hid qv
      have quu := hid qu
      clear ix iy vx vy hc hr v1 u1 qv qu bx
      go_enter Try.func53, Try.ntmps53
      go_wp2_with fail
      refine (QC.out _ (qvv.out.below (by (repeat' (first | (with_reducible assumption) | (with_reducible exact Below.refl _ _) | (with_reducible refine below_al ?_ _) | (with_reducible refine below_drewN ?_ _) | (with_reducible refine Below.drew ?_) | (with_reducible refine Below.alloc ?_ ?_ _) | (with_reducible refine Below.setCell ?_ ?_ _) | (refine below_trans ?_ (by assumption)) | go_size)))) (quu.out.below (by (repeat' (first | (with_reducible assumption) | (with_reducible exact Below.refl _ _) | (with_reducible refine below_al ?_ _) | (with_reducible refine below_drewN ?_ _) | (with_reducible refine Below.drew ?_) | (with_reducible refine Below.alloc ?_ ?_ _) | (with_reducible refine Below.setCell ?_ ?_ _) | (refine below_trans ?_ (by assumption)) | go_size))))).mono ?_
      rintro e w2 ⟨rfl, hb2⟩
      go_wp2_with fail
      go_ret
      exact ⟨rfl, by (repeat' (first | (with_reducible assumption) | (with_reducible exact Below.refl _ _) | (with_reducible refine below_al ?_ _) | (with_reducible refine below_drewN ?_ _) | (with_reducible refine Below.drew ?_) | (with_reducible refine Below.alloc ?_ ?_ _) | (with_reducible refine Below.setCell ?_ ?_ _) | (refine below_trans ?_ (by assumption)) | go_size))⟩
    · have by' := iy u1
      have e1 : (0 : Int) ≠ wby := by rw [u2]; split <;> omega
      have eb : ((0 : Int) != wby) = true := by simpa using e1
      by_cases hlt : 0 < wby
      all_goals
        have H := hid (show r = if 0 < wby then -1 else 1 by
          rw [hr]; unfold cmpI
          cases hg : negB y <;> rw [hg] at by' u2 <;> simp at by' u2 <;> subst u2 <;> simp at hlt ⊢ <;> omega)
        clear ix iy vx vy hc hr v1 u1 qv bx by' u2 e1
        go_enter Try.func53, Try.ntmps53
        go_wp2_with fail
        go_ret
        exact ⟨ret_int (by rw [H.out]; first | rw [if_pos (by omega)] | rw [if_neg (by omega)]), by (repeat' (first | (with_reducible exact Below.refl _ _) | (with_reducible assumption) | (with_reducible refine below_drewN ?_ _) | (with_reducible refine Below.drew ?_) | (with_reducible refine Below.alloc ?_ ?_ _) | (with_reducible refine Below.setCell ?_ ?_ _) | go_size))⟩
  · have bx := ix v1
    rcases huu with ⟨u1, rfl, qu⟩ | ⟨u1, u2⟩
    · have by' := vy u1
      have e1 : way ≠ (0 : Int) := by rw [v2]; split <;> omega
      have eb : (way != (0 : Int)) = true := by simpa using e1
      by_cases hlt : way < 0
      all_goals
        have H := hid (show r = if way < 0 then -1 else 1 by
          rw [hr]; unfold cmpI
          cases hg : negB x <;> rw [hg] at bx v2 <;> simp at bx v2 <;> subst v2 <;> simp at hlt ⊢ <;> omega)
        clear ix iy vx vy hc hr v1 u1 qu bx by' v2 e1
        go_enter Try.func53, Try.ntmps53
        go_wp2_with fail
        go_ret
        exact ⟨ret_int (by rw [H.out]; first | rw [if_pos (by omega)] | rw [if_neg (by omega)]), by (repeat' (first | (with_reducible exact Below.refl _ _) | (with_reducible assumption) | (with_reducible refine below_drewN ?_ _) | (with_reducible refine Below.drew ?_) | (with_reducible refine Below.alloc ?_ ?_ _) | (with_reducible refine Below.setCell ?_ ?_ _) | go_size))⟩
    · have by' := iy u1
      by_cases hne : way = wby
      · subst hne
        have H := hid (show 0 = r by
          rw [hr]; unfold cmpI
          cases hg : negB x <;> cases hg' : negB y <;> rw [hg] at bx v2 <;> rw [hg'] at by' u2 <;> simp at bx by' v2 u2 <;> first | omega | (rw [bx, by']; simp))
        have e1 : way ≠ (0 : Int) := by rw [v2]; split <;> omega
        have eb : (way != (0 : Int)) = true := by simpa using e1
        have eb2 : (way != way) = false := by simp
        clear ix iy vx vy hc hr v1 u1 bx by' v2 u2 e1
        go_enter Try.func53, Try.ntmps53
        go_wp2_with fail
        go_ret
        exact ⟨ret_int H.out, by (repeat' (first | (with_reducible exact Below.refl _ _) | (with_reducible assumption) | (with_reducible refine below_drewN ?_ _) | (with_reducible refine Below.drew ?_) | (with_reducible refine Below.alloc ?_ ?_ _) | (with_reducible refine Below.setCell ?_ ?_ _) | go_size))⟩
      · have eb : (way != wby) = true := by simpa using hne
        by_cases hlt : way < wby
        all_goals
          have H := hid (show r = if way < wby then -1 else 1 by
            rw [hr]; unfold cmpI
            cases hg : negB x <;> cases hg' : negB y <;> rw [hg] at bx v2 <;> rw [hg'] at by' u2 <;> simp at bx by' v2 u2 <;> subst v2 <;> subst u2 <;> simp at hlt hne ⊢ <;> omega)
          clear ix iy vx vy hc hr v1 u1 bx by' v2 u2 hne
          go_enter Try.func53, Try.ntmps53
          go_wp2_with fail
          go_ret
          exact ⟨ret_int (by rw [H.out]; first | rw [if_pos (by omega)] | rw [if_neg (by omega)]), by (repeat' (first | (with_reducible exact Below.refl _ _) | (with_reducible assumption) | (with_reducible refine below_drewN ?_ _) | (with_reducible refine Below.drew ?_) | (with_reducible refine Below.alloc ?_ ?_ _) | (with_reducible refine Below.setCell ?_ ?_ _) | go_size))⟩
end Go.Proofs.Ytdoiobdomngccaa
