/- SpanSums: what the proof leans on, part 10 (Sp2 Sp3 Sp4 Sp5). -/
import Derived.Deep.DeepCutAuto
import Derived.Deep.CutBlock
import Derived.BigRegion
import Derived.Test.YtfphmlmgjhebjaaGreatDoorKSpanSums7
import Derived.Test.YtfphmlmgjhebjaaGreatDoorKSpanSums8
import Derived.Test.YtfphmlmgjhebjaaGreatDoorKSpanSums9
namespace Go.Ulp
open Go.RowKit
theorem spanB_facts {l h : Int} (hs : spanB l h = true) : l ≠ 9223372036854775808 ∧ h ≠ 9223372036854775808 ∧ l ≠ 9218868437227405312 ∧ h ≠ 18442240474082181120 ∧ classOf l ≠ 5 ∧ classOf h ≠ 5 ∧ rankOf l ≤ rankOf h := by
  unfold spanB edgeB leB at hs
  simp only [Bool.and_eq_true, decide_eq_true_eq] at hs
  exact ⟨hs.1.1, hs.1.2.1, hs.1.2.2.1, hs.1.2.2.2, hs.2.1, hs.2.2.1, hs.2.2.2⟩
/-- block g is a variable of two numbers -/
def SV (w : World) (g : Nat) (l h : Int) : Prop := w.cell? ⟨g, 0, none⟩ = some (.int .u64 l) ∧ w.cell? ⟨g, 1, none⟩ = some (.int .u64 h) ∧ w.frozen? ⟨g, 0, none⟩ = false ∧ w.frozen? ⟨g, 1, none⟩ = false
theorem SV.lt {w : World} {g : Nat} {l h : Int} (hs : SV w g l h) : g < w.heap.size := World.block_lt_of_cell? w _ hs.1
theorem SV.belowB {B : Nat} {w w' : World} {g : Nat} {l h : Int} (hs : SV w g l h) (hb : Below B w w') (hB : g < B) : SV w' g l h :=
  ⟨(hb.cell (p := ⟨g, 0, none⟩) hB).trans hs.1, (hb.cell (p := ⟨g, 1, none⟩) hB).trans hs.2.1, (hb.frozen (p := ⟨g, 0, none⟩) hB).trans hs.2.2.1, (hb.frozen (p := ⟨g, 1, none⟩) hB).trans hs.2.2.2⟩
theorem SV.below {w w' : World} {g : Nat} {l h : Int} (hs : SV w g l h) (hb : Below w.heap.size w w') : SV w' g l h := hs.belowB hb hs.lt
theorem SV.made {w : World} {g : Nat} {l h : Int} {t : TypeId} (hg : g = w.heap.size) : SV (w.alloc (.cells #[.int .u64 l, .int .u64 h] t)) g l h := by
  subst hg
  refine ⟨?_, ?_, ?_, ?_⟩
  · rw [World.cell?_alloc_at (hn := rfl)]; rfl
  · rw [World.cell?_alloc_at (hn := rfl)]; rfl
  · unfold World.frozen?; rw [heap_alloc_new]; simp
  · unfold World.frozen?; rw [heap_alloc_new]; simp
theorem SV.alloc {w : World} {g : Nat} {l h : Int} (hs : SV w g l h) (o : Obj) : SV (w.alloc o) g l h := hs.below (below_alloc _ _)
theorem SV.drew {w : World} {g : Nat} {l h : Int} (hs : SV w g l h) : SV w.drew g l h := hs
def plainOf (x : Int) : Int := if x = 9223372036854775808 then 0 else x
end Go.Ulp
namespace Go.Proofs.YtfphmlmgjhebjaaGreatDoor
open Go.RowKit Go.Ulp
set_option linter.unusedVariables false
set_option linter.unusedSimpArgs false
set_option maxHeartbeats 1000000
theorem spanCheck_any (l h : Int) (hl : U64 l) (hh : U64 h) (w : World) :
    Calls Tryz.prog 98 #[.agg #[.int .u64 l, .int .u64 h]] w fun e w' => e = .returned (.int .i64 (spanE l h)) ∧ Below w.heap.size w w' := by
  have AM := hid (fun w => atMost_any l h hl hh w)
  obtain ⟨E, hE⟩ : ∃ E, E = spanE l h := ⟨_, rfl⟩
  rw [← hE]
  unfold spanE spanB edgeB at hE
  by_cases c1 : l = 9223372036854775808
  · have b1 : (l == 9223372036854775808) = true := by simpa using c1
    have H := hid (show 3 = E by rw [hE]; simp [c1])
    clear hE c1
    go_enter Tryz.func98, Tryz.ntmps98
    go_wp2_with fail
    go_ret
    exact ⟨ret_int H.out, by (repeat' (first | (with_reducible exact Below.refl _ _) | (with_reducible assumption) | (with_reducible refine below_drewN ?_ _) | (with_reducible refine Below.drew ?_) | (with_reducible refine Below.alloc ?_ ?_ _) | (with_reducible refine Below.setCell ?_ ?_ _) | go_size))⟩
  · have b1 : (l == 9223372036854775808) = false := by simpa using c1
    by_cases c2 : h = 9223372036854775808
    · have b2 : (h == 9223372036854775808) = true := by simpa using c2
      have H := hid (show 3 = E by rw [hE]; simp [c2])
      clear hE c1 c2
      go_enter Tryz.func98, Tryz.ntmps98
      go_wp2_with fail
      go_ret
      exact ⟨ret_int H.out, by (repeat' (first | (with_reducible exact Below.refl _ _) | (with_reducible assumption) | (with_reducible refine below_drewN ?_ _) | (with_reducible refine Below.drew ?_) | (with_reducible refine Below.alloc ?_ ?_ _) | (with_reducible refine Below.setCell ?_ ?_ _) | go_size))⟩
    · have b2 : (h == 9223372036854775808) = false := by simpa using c2
      by_cases c3 : l = 9218868437227405312
      · have b3 : (l == 9218868437227405312) = true := by simpa using c3
        have H := hid (show 3 = E by rw [hE]; simp [c3])
        clear hE c1 c2 c3
        go_enter Tryz.func98, Tryz.ntmps98
        go_wp2_with fail
        go_ret
        exact ⟨ret_int H.out, by (repeat' (first | (with_reducible exact Below.refl _ _) | (with_reducible assumption) | (with_reducible refine below_drewN ?_ _) | (with_reducible refine Below.drew ?_) | (with_reducible refine Below.alloc ?_ ?_ _) | (with_reducible refine Below.setCell ?_ ?_ _) | go_size))⟩
      · have b3 : (l == 9218868437227405312) = false := by simpa using c3
        by_cases c4 : h = 18442240474082181120
        · have b4 : (h == 18442240474082181120) = true := by simpa using c4
          have H := hid (show 3 = E by rw [hE]; simp [c4])
          clear hE c1 c2 c3 c4
          go_enter Tryz.func98, Tryz.ntmps98
          go_wp2_with fail
          go_ret
          exact ⟨ret_int H.out, by (repeat' (first | (with_reducible exact Below.refl _ _) | (with_reducible assumption) | (with_reducible refine below_drewN ?_ _) | (with_reducible refine Below.drew ?_) | (with_reducible refine Below.alloc ?_ ?_ _) | (with_reducible refine Below.setCell ?_ ?_ _) | go_size))⟩
        · have b4 : (h == 18442240474082181120) = false := by simpa using c4
          have hE' : E = if leB l h = true then 0 else 3 := by rw [hE]; simp [c1, c2, c3, c4]
          cases hb : leB l h
          · have H := hid (show 3 = E by rw [hE', hb]; rfl)
            rw [hb] at AM
            clear hE hE' c1 c2 c3 c4 hb
            go_enter Tryz.func98, Tryz.ntmps98
            go_wp2_with (go_at_call 99; refine (AM.out _).mono ?_; rintro e w' ⟨rfl, rfl⟩)
            go_ret
            exact ⟨ret_int H.out, by (repeat' (first | (with_reducible exact Below.refl _ _) | (with_reducible assumption) | (with_reducible refine below_drewN ?_ _) | (with_reducible refine Below.drew ?_) | (with_reducible refine Below.alloc ?_ ?_ _) | (with_reducible refine Below.setCell ?_ ?_ _) | go_size))⟩
          · have H := hid (show 0 = E by rw [hE', hb]; rfl)
            rw [hb] at AM
            clear hE hE' c1 c2 c3 c4 hb
            go_enter Tryz.func98, Tryz.ntmps98
            go_wp2_with (go_at_call 99; refine (AM.out _).mono ?_; rintro e w' ⟨rfl, rfl⟩)
            go_ret
            exact ⟨ret_int H.out, by (repeat' (first | (with_reducible exact Below.refl _ _) | (with_reducible assumption) | (with_reducible refine below_drewN ?_ _) | (with_reducible refine Below.drew ?_) | (with_reducible refine Below.alloc ?_ ?_ _) | (with_reducible refine Below.setCell ?_ ?_ _) | go_size))⟩
def checkE (l h m i : Int) : Int := if spanB l h = true then spanE m i else 3
theorem spanE_true {l h : Int} (hs : spanB l h = true) : spanE l h = 0 := by unfold spanE; rw [if_pos hs]
theorem spanE_false {l h : Int} (hs : spanB l h = false) : spanE l h = 3 := by unfold spanE; rw [hs]; rfl
theorem spanCheck2_any (l h m i : Int) (hl : U64 l) (hh : U64 h) (hm : U64 m) (hi : U64 i) (w : World) :
    Calls Tryz.prog 38 #[.agg #[.int .u64 l, .int .u64 h], .agg #[.int .u64 m, .int .u64 i]] w fun e w' => e = .returned (.int .i64 (checkE l h m i)) ∧ Below w.heap.size w w' := by
  have A := hid (fun w => spanCheck_any l h hl hh w)
  have B := hid (fun w => spanCheck_any m i hm hi w)
  cases hs : spanB l h
  · have e1 := spanE_false hs
    have H := hid (show 3 = checkE l h m i by unfold checkE; rw [hs]; rfl)
    rw [e1] at A
    clear e1 hs
    go_enter Tryz.func38, Tryz.ntmps38
    go_wp2_with (go_at_call 98; ((with_reducible refine (A.out _).mono ?_)); rintro e w' ⟨rfl, hb1⟩)
    go_ret
    exact ⟨ret_int H.out, by (repeat' (first | (with_reducible assumption) | (with_reducible exact Below.refl _ _) | (with_reducible refine below_al ?_ _) | (with_reducible refine below_drewN ?_ _) | (with_reducible refine Below.drew ?_) | (with_reducible refine Below.alloc ?_ ?_ _) | (with_reducible refine Below.setCell ?_ ?_ _) | (refine below_trans ?_ (by assumption)) | go_size))⟩
  · have e1 := spanE_true hs
    have H := hid (show spanE m i = checkE l h m i by unfold checkE; rw [if_pos hs])
    rw [e1] at A
    clear e1 hs
    go_enter Tryz.func38, Tryz.ntmps38
    go_wp2_with (go_at_call 98; ((with_reducible refine (A.out _).mono ?_)); rintro e w1 ⟨rfl, hb1⟩; obtain ⟨hc1, hf1⟩ := bcell hb1)
    refine (B.out _).mono ?_
    rintro e w2 ⟨rfl, hb2⟩
    go_wp2_with fail
    go_ret
    exact ⟨ret_int H.out, by (repeat' (first | (with_reducible assumption) | (with_reducible exact Below.refl _ _) | (with_reducible refine below_al ?_ _) | (with_reducible refine below_drewN ?_ _) | (with_reducible refine Below.drew ?_) | (with_reducible refine Below.alloc ?_ ?_ _) | (with_reducible refine Below.setCell ?_ ?_ _) | (refine below_trans ?_ (by assumption)) | go_size))⟩
theorem spanHasIn_any (l h x : Int) (hl : U64 l) (hh : U64 h) (hx : U64 x) (w : World) :
    Calls Tryz.prog 45 #[.agg #[.int .u64 l, .int .u64 h], .int .u64 x] w fun e w' => e = .returned (.bool (leB l x && leB x h)) ∧ Below w.heap.size w w' := by
  have A := hid (fun w => atMost_any l x hl hx w)
  have B := hid (fun w => atMost_any x h hx hh w)
  cases hb : leB l x
  all_goals
    rw [hb] at A
    clear hb
    go_enter Tryz.func45, Tryz.ntmps45
    go_wp2_with (go_at_call 99; (first | ((with_reducible refine (A.out _).mono ?_)) | ((with_reducible refine (B.out _).mono ?_))); rintro e w' ⟨rfl, rfl⟩)
    go_ret
    exact ⟨rfl, by (repeat' (first | (with_reducible exact Below.refl _ _) | (with_reducible assumption) | (with_reducible refine below_drewN ?_ _) | (with_reducible refine Below.drew ?_) | (with_reducible refine Below.alloc ?_ ?_ _) | (with_reducible refine Below.setCell ?_ ?_ _) | go_size))⟩
theorem plain_any (x : Int) (w : World) : Calls Tryz.prog 40 #[.int .u64 x] w fun e w' => e = .returned (.int .u64 (plainOf x)) ∧ w = w' := by
  by_cases c : x = 9223372036854775808
  · have b1 : (x == 9223372036854775808) = true := by simpa using c
    have H := hid (show 0 = plainOf x by unfold plainOf; rw [if_pos c])
    clear c
    go_enter Tryz.func40, Tryz.ntmps40
    go_wp2_with fail
    go_ret
    exact ⟨ret_int H.out, rfl⟩
  · have b1 : (x == 9223372036854775808) = false := by simpa using c
    have H := hid (show x = plainOf x by unfold plainOf; rw [if_neg c])
    go_enter Tryz.func40, Tryz.ntmps40
    go_wp2_with fail
    go_ret
    exact ⟨ret_int H.out, rfl⟩
theorem checkE_facts {l h m i : Int} (h0 : checkE l h m i = 0) : spanB l h = true ∧ spanB m i = true := by
  unfold checkE at h0
  cases hs : spanB l h
  · rw [hs] at h0; simp at h0
  · rw [if_pos hs] at h0
    unfold spanE at h0
    cases ht : spanB m i
    · rw [ht] at h0; simp at h0
    · exact ⟨rfl, rfl⟩
end Go.Proofs.YtfphmlmgjhebjaaGreatDoor

set_option linter.unusedVariables false
set_option linter.unusedSimpArgs false
namespace Go.Ulp
open Go.RowKit
def nanB (x : Int) : Bool := decide (classOf x = 5)
def infB (x : Int) : Bool := decide (classOf x = 4)
def zeroB (x : Int) : Bool := decide (classOf x = 1)
def valB (x : Int) : Bool := decide (classOf x < 4)
/-- a value that is the end of a span: a number, or without an end -/
def ED (ti : TypeId) (w : World) (x : Int) (v : Value) : Prop :=
  ∃ n ao l c t way, v = .agg #[.bool n, .slice ao l c, .int .i64 t, .int .i64 way] ∧
    ((valB x = true ∧ way = 0 ∧ QD ti w (fv x) 1200 1100 (.agg #[.bool n, .slice ao l c, .int .i64 t])) ∨ (valB x = false ∧ way = if negB x then -1 else 1))
theorem ED.below {ti : TypeId} {w w' : World} {x : Int} {v : Value} (h : ED ti w x v) (hb : Below w.heap.size w w') : ED ti w' x v := by
  obtain ⟨n, ao, l, c, t, way, h1, h2⟩ := h
  refine ⟨n, ao, l, c, t, way, h1, ?_⟩
  rcases h2 with ⟨h2, h3, h4⟩ | h2
  · exact .inl ⟨h2, h3, h4.below hb⟩
  · exact .inr h2
def Fact.e (ti : TypeId) (x : Int) : Fact := ⟨fun v w => ED ti w x v, fun _ _ _ h hb => h.below hb⟩
theorem inf_rank (x : Int) (h0 : 0 ≤ x) (h1 : x < 18446744073709551616) (hn : classOf x ≠ 5) (hv : valB x = false) : rankOf x = if negB x then -9218868437227405312 else 9218868437227405312 := by
  have a := class_nan x h0 h1
  have b := class_val x h0 h1
  have c := class_bd x
  unfold valB at hv
  have hv' : ¬ classOf x < 4 := by simpa using hv
  unfold absOf at a b
  unfold rankOf negB
  by_cases hc : 9223372036854775808 ≤ x
  · rw [if_pos hc, if_pos (by simpa using hc)]; omega
  · rw [if_neg hc, if_neg (by simpa using hc)]; omega
theorem val_rank (x : Int) (h0 : 0 ≤ x) (h1 : x < 18446744073709551616) (hv : valB x = true) : -9218868437227405312 < rankOf x ∧ rankOf x < 9218868437227405312 := by
  have b := class_val x h0 h1
  unfold valB at hv
  have hv' : classOf x < 4 := by simpa using hv
  unfold absOf at b
  unfold rankOf
  split <;> omega
theorem hasVal_valB (x : Int) (h0 : 0 ≤ x) (h1 : x < 18446744073709551616) : hasVal x = valB x := by
  have b := class_val x h0 h1
  unfold hasVal valB; unfold absOf at b
  rw [Bool.eq_iff_iff]; simp; omega
theorem zero_iff (x : Int) (h0 : 0 ≤ x) (h1 : x < 18446744073709551616) : classOf x = 1 ↔ absOf x = 0 := by
  have b1 := expOf_bd x
  have b2 := fracOf_bd x
  unfold classOf absOf
  have e : expOf x * 4503599627370496 + fracOf x = x % 9223372036854775808 := by unfold expOf fracOf; omega
  split
  · split <;> omega
  · split
    · omega
    · split <;> omega
theorem minus_zero (x : Int) (h0 : 0 ≤ x) (h1 : x < 18446744073709551616) : (zeroB x && negB x) = decide (x = 9223372036854775808) := by
  have := zero_iff x h0 h1
  unfold zeroB negB; unfold absOf at this
  rw [Bool.eq_iff_iff]; simp; omega
end Go.Ulp
namespace Go.Proofs.YtfphmlmgjhebjaaGreatDoor
open Go.RowKit Go.Ulp
set_option linter.unusedVariables false
set_option linter.unusedSimpArgs false
set_option maxHeartbeats 1000000
set_option maxRecDepth 100000
theorem isNan_any (x : Int) (hx : U64 x) (w : World) : Calls Tryz.prog 49 #[.int .u64 x] w fun e w' => e = .returned (.bool (nanB x)) ∧ w = w' := by
  go_enter Tryz.func49, Tryz.ntmps49
  go_wp2_with (go_at_call 104; refine (classOf_any x hx.1 hx.2 _).mono ?_; rintro e w' ⟨rfl, rfl⟩)
  go_ret
  exact ⟨ret_bool (by unfold nanB; first | rfl | (rw [Bool.eq_iff_iff]; simp)), rfl⟩
theorem isInf_any (x : Int) (hx : U64 x) (w : World) : Calls Tryz.prog 53 #[.int .u64 x] w fun e w' => e = .returned (.bool (infB x)) ∧ w = w' := by
  go_enter Tryz.func53, Tryz.ntmps53
  go_wp2_with (go_at_call 104; refine (classOf_any x hx.1 hx.2 _).mono ?_; rintro e w' ⟨rfl, rfl⟩)
  go_ret
  exact ⟨ret_bool (by unfold infB; first | rfl | (rw [Bool.eq_iff_iff]; simp)), rfl⟩
theorem isZeroS_any (x : Int) (hx : U64 x) (w : World) : Calls Tryz.prog 50 #[.int .u64 x] w fun e w' => e = .returned (.bool (zeroB x)) ∧ w = w' := by
  go_enter Tryz.func50, Tryz.ntmps50
  go_wp2_with (go_at_call 104; refine (classOf_any x hx.1 hx.2 _).mono ?_; rintro e w' ⟨rfl, rfl⟩)
  go_ret
  exact ⟨ret_bool (by unfold zeroB; first | rfl | (rw [Bool.eq_iff_iff]; simp)), rfl⟩
theorem minus_any' (x : Int) (w : World) : Calls Tryz.prog 51 #[.int .u64 x] w fun e w' => e = .returned (.bool (negB x)) ∧ w = w' := by
  go_enter Tryz.func51, Tryz.ntmps51
  go_wp2_with fail
  go_ret
  exact ⟨ret_bool (by unfold negB; rfl), rfl⟩
theorem extOf_any (x : Int) (hx : U64 x) (hn : nanB x = false) (w : World) :
    Calls Tryz.prog 12 #[.int .u64 x] w fun e w' => ∃ v, e = .returned v ∧ ED 3 w' x v ∧ Below w.heap.size w w' := by
  have I := hid (fun w => isInf_any x hx w)
  have M := hid (fun w => minus_any' x w)
  have V := hid (fun w => qval_any x hx.1 hx.2 w)
  have hiv : infB x = !valB x := by
    have := class_bd x
    unfold nanB at hn; unfold infB valB
    have : classOf x ≠ 5 := by simpa using hn
    rw [Bool.eq_iff_iff]; simp; omega
  cases hv : valB x
  · rw [hv] at hiv
    rw [hiv] at I
    have hvv := hid hv
    clear hv hiv hn
    cases hg : negB x
    all_goals
      rw [hg] at M
      have hgg := hid hg
      clear hg
      go_enter Tryz.func12, Tryz.ntmps12
      go_wp2_with (first | (go_at_call 53; refine (I.out _).mono ?_; rintro e w' ⟨rfl, rfl⟩) | (go_at_call 51; refine (M.out _).mono ?_; rintro e w' ⟨rfl, rfl⟩))
      refine bodyPost_ret (by simp [results, Tryz.results12, go_sem]; try rfl) rfl ?_
      exact ⟨_, rfl, ⟨_, _, _, _, _, _, rfl, .inr ⟨hvv.out, by rw [hgg.out]; rfl⟩⟩, by (repeat' (first | (with_reducible exact Below.refl _ _) | (with_reducible assumption) | (with_reducible refine below_drewN ?_ _) | (with_reducible refine Below.drew ?_) | (with_reducible refine Below.alloc ?_ ?_ _) | (with_reducible refine Below.setCell ?_ ?_ _) | go_size))⟩
  · rw [hv] at hiv
    rw [hiv] at I
    have hvv := hid hv
    clear hv hiv hn
    go_enter Tryz.func12, Tryz.ntmps12
    go_wp2_with (first | (go_at_call 53; refine (I.out _).mono ?_; rintro e w' ⟨rfl, rfl⟩))
    have hX0 : QL 35 (w.alloc (.cells #[.bool false, .slice none 0 0, .int .i64 0, .int .i64 0] 35)) w.heap.size false (.slice none 0 0) 0 := by
      refine ⟨⟨?_, ?_, ?_, ?_, ElemIs.made _ _ _⟩, ?_, ?_⟩
      · rw [World.cell?_alloc_at (hn := rfl)]; rfl
      · rw [World.cell?_alloc_at (hn := rfl)]; rfl
      · unfold World.frozen?; rw [heap_alloc_new]; simp
      · unfold World.frozen?; rw [heap_alloc_new]; simp
      · rw [World.cell?_alloc_at (hn := rfl)]; rfl
      · unfold World.frozen?; rw [heap_alloc_new]; simp
    have hX3 : (w.alloc (.cells #[.bool false, .slice none 0 0, .int .i64 0, .int .i64 0] 35)).cell? ⟨w.heap.size, 3, none⟩ = some (.int .i64 0) := by rw [World.cell?_alloc_at (hn := rfl)]; rfl
    have hX4 : (w.alloc (.cells #[.bool false, .slice none 0 0, .int .i64 0, .int .i64 0] 35)).frozen? ⟨w.heap.size, 3, none⟩ = false := by unfold World.frozen?; rw [heap_alloc_new]; simp
    refine (V.out _).mono ?_
    rintro e w1 ⟨v1, rfl, ⟨y, s, b0, d0, rfl, hY, hE, hyA, hs⟩, hb⟩
    have k3 := (hb.cell (p := ⟨w.heap.size, 3, none⟩) (by simp)).trans hX3
    have f3 := (hb.frozen (p := ⟨w.heap.size, 3, none⟩) (by simp)).trans hX4
    have zR := hX0.below hb
    have yb : Below w.heap.size w w1 := below_trans (by (repeat' (first | (with_reducible assumption) | (with_reducible exact Below.refl _ _) | (with_reducible refine below_al ?_ _) | (with_reducible refine below_drewN ?_ _) | (with_reducible refine Below.drew ?_) | (with_reducible refine Below.alloc ?_ ?_ _) | (with_reducible refine Below.setCell ?_ ?_ _) | (refine below_trans ?_ (by assumption)) | go_size))) hb
    have HE := hid hE
    have HYA := hid hyA
    clear hX0 hX3 hX4 hb hE hyA
    obtain ⟨⟨k0, k1, f0, f1, hs2⟩, k2, f2⟩ := zR
    go_wp2_with fail
    refine bodyPost_ret (by simp [results, Tryz.results12, go_sem, k0, k1, k2, k3]; try rfl) rfl ?_
    refine ⟨_, rfl, ⟨_, _, _, _, _, _, rfl, .inl ⟨hvv.out, rfl, _, _, _, _, rfl, ?_, HE.out, HYA.out, hs⟩⟩, (((yb.setCell (by first | omega | (simp; done) | (simp; omega)) _).setCell (by first | omega | (simp; done) | (simp; omega)) _).setCell (by first | omega | (simp; done) | (simp; omega)) _).setCell (by first | omega | (simp; done) | (simp; omega)) _⟩
    exact (((hY.setCell hs2 (by decide) _ _).setCell (hs2.setCell _ _) (by decide) _ _).setCell ((hs2.setCell _ _).setCell _ _) (by decide) _ _).setCell (((hs2.setCell _ _).setCell _ _).setCell _ _) (by decide) _ _
theorem extCmp_any (v u : Value) (x y : Int) (hx : U64 x) (hy : U64 y) (nx : nanB x = false) (ny : nanB y = false) (w : World) (hv : ED 3 w x v) (hu : ED 3 w y u) :
    Calls Tryz.prog 52 #[v, u] w fun e w' => e = .returned (.int .i64 (cmpI (rankOf x) (rankOf y))) ∧ Below w.heap.size w w' := by
  have cx : classOf x ≠ 5 := by unfold nanB at nx; simpa using nx
  have cy : classOf y ≠ 5 := by unfold nanB at ny; simpa using ny
  have ix := inf_rank x hx.1 hx.2 cx
  have iy := inf_rank y hy.1 hy.2 cy
  have vx := val_rank x hx.1 hx.2
  have vy := val_rank y hy.1 hy.2
  have hc := cmp_fv x y hx.1 hx.2 hy.1 hy.2
  obtain ⟨n, ao, l, c, t, way, rfl, hvv⟩ := hv
  obtain ⟨m, bo, k, d, s, wby, rfl, huu⟩ := hu
  obtain ⟨r, hr⟩ : ∃ r, r = cmpI (rankOf x) (rankOf y) := ⟨_, rfl⟩
  rw [← hr]
  rcases hvv with ⟨v1, rfl, qv⟩ | ⟨v1, v2⟩
  · have bx := vx v1
    rcases huu with ⟨u1, rfl, qu⟩ | ⟨u1, u2⟩
    · have QC := hid (fun (W : World) (a : QD 3 W (fv x) 1200 1100 (.agg #[.bool n, .slice ao l c, .int .i64 t])) (b : QD 3 W (fv y) 1200 1100 (.agg #[.bool m, .slice bo k d, .int .i64 s])) => qcmp_any _ _ (fv x) (fv y) 1200 1100 1200 1100 W a b (by omega) (by omega) (by omega) (by omega))
      rw [hc, ← hr] at QC
      have qvv := hid qv
      have quu := hid qu
      clear ix iy vx vy hc hr v1 u1 qv qu bx
      go_enter Tryz.func52, Tryz.ntmps52
      go_wp2_with fail
      refine (QC.out _ (qvv.out.below (by (repeat' (first | (with_reducible assumption) | (with_reducible exact Below.refl _ _) | (with_reducible refine below_al ?_ _) | (with_reducible refine below_drewN ?_ _) | (with_reducible refine Below.drew ?_) | (with_reducible refine Below.alloc ?_ ?_ _) | (with_reducible refine Below.setCell ?_ ?_ _) | (refine below_trans ?_ (by assumption)) | go_size)))) (quu.out.below (by (repeat' (first | (with_reducible assumption) | (with_reducible exact Below.refl _ _) | (with_reducible refine below_al ?_ _) | (with_reducible refine below_drewN ?_ _) | (with_reducible refine Below.drew ?_) | (with_reducible refine Below.alloc ?_ ?_ _) | (with_reducible refine Below.setCell ?_ ?_ _) | (refine below_trans ?_ (by assumption)) | go_size))))).mono ?_
      rintro e w2 ⟨rfl, hb2⟩
      go_wp2_with fail
      go_ret
      exact ⟨rfl, by (repeat' (first | (with_reducible assumption) | (with_reducible exact Below.refl _ _) | (with_reducible refine below_al ?_ _) | (with_reducible refine below_drewN ?_ _) | (with_reducible refine Below.drew ?_) | (with_reducible refine Below.alloc ?_ ?_ _) | (with_reducible refine Below.setCell ?_ ?_ _) | (refine below_trans ?_ (by assumption)) | go_size))⟩
    · have by' := iy u1
      have e1 : (0 : Int) ≠ wby := by rw [u2]; split <;> omega
      have eb : ((0 : Int) != wby) = true := by simpa using e1
      by_cases hlt : 0 < wby
      all_goals
        have H := hid (show r = if 0 < wby then -1 else 1 by
          rw [hr]; unfold cmpI
          cases hg : negB y <;> rw [hg] at by' u2 <;> simp at by' u2 <;> subst u2 <;> simp at hlt ⊢ <;> omega)
        clear ix iy vx vy hc hr v1 u1 qv bx by' u2 e1
        go_enter Tryz.func52, Tryz.ntmps52
        go_wp2_with fail
        go_ret
        exact ⟨ret_int (by rw [H.out]; first | rw [if_pos (by omega)] | rw [if_neg (by omega)]), by (repeat' (first | (with_reducible exact Below.refl _ _) | (with_reducible assumption) | (with_reducible refine below_drewN ?_ _) | (with_reducible refine Below.drew ?_) | (with_reducible refine Below.alloc ?_ ?_ _) | (with_reducible refine Below.setCell ?_ ?_ _) | go_size))⟩
  · have bx := ix v1
    rcases huu with ⟨u1, rfl, qu⟩ | ⟨u1, u2⟩
    · have by' := vy u1
      have e1 : way ≠ (0 : Int) := by rw [v2]; split <;> omega
      have eb : (way != (0 : Int)) = true := by simpa using e1
      by_cases hlt : way < 0
      all_goals
        have H := hid (show r = if way < 0 then -1 else 1 by
          rw [hr]; unfold cmpI
          cases hg : negB x <;> rw [hg] at bx v2 <;> simp at bx v2 <;> subst v2 <;> simp at hlt ⊢ <;> omega)
        clear ix iy vx vy hc hr v1 u1 qu bx by' v2 e1
        go_enter Tryz.func52, Tryz.ntmps52
        go_wp2_with fail
        go_ret
        exact ⟨ret_int (by rw [H.out]; first | rw [if_pos (by omega)] | rw [if_neg (by omega)]), by (repeat' (first | (with_reducible exact Below.refl _ _) | (with_reducible assumption) | (with_reducible refine below_drewN ?_ _) | (with_reducible refine Below.drew ?_) | (with_reducible refine Below.alloc ?_ ?_ _) | (with_reducible refine Below.setCell ?_ ?_ _) | go_size))⟩
    · have by' := iy u1
      by_cases hne : way = wby
      · subst hne
        have H := hid (show 0 = r by
          rw [hr]; unfold cmpI
          cases hg : negB x <;> cases hg' : negB y <;> rw [hg] at bx v2 <;> rw [hg'] at by' u2 <;> simp at bx by' v2 u2 <;> first | omega | (rw [bx, by']; simp))
        have e1 : way ≠ (0 : Int) := by rw [v2]; split <;> omega
        have eb : (way != (0 : Int)) = true := by simpa using e1
        have eb2 : (way != way) = false := by simp
        clear ix iy vx vy hc hr v1 u1 bx by' v2 u2 e1
        go_enter Tryz.func52, Tryz.ntmps52
        go_wp2_with fail
        go_ret
        exact ⟨ret_int H.out, by (repeat' (first | (with_reducible exact Below.refl _ _) | (with_reducible assumption) | (with_reducible refine below_drewN ?_ _) | (with_reducible refine Below.drew ?_) | (with_reducible refine Below.alloc ?_ ?_ _) | (with_reducible refine Below.setCell ?_ ?_ _) | go_size))⟩
      · have eb : (way != wby) = true := by simpa using hne
        by_cases hlt : way < wby
        all_goals
          have H := hid (show r = if way < wby then -1 else 1 by
            rw [hr]; unfold cmpI
            cases hg : negB x <;> cases hg' : negB y <;> rw [hg] at bx v2 <;> rw [hg'] at by' u2 <;> simp at bx by' v2 u2 <;> subst v2 <;> subst u2 <;> simp at hlt hne ⊢ <;> omega)
          clear ix iy vx vy hc hr v1 u1 bx by' v2 u2 hne
          go_enter Tryz.func52, Tryz.ntmps52
          go_wp2_with fail
          go_ret
          exact ⟨ret_int (by rw [H.out]; first | rw [if_pos (by omega)] | rw [if_neg (by omega)]), by (repeat' (first | (with_reducible exact Below.refl _ _) | (with_reducible assumption) | (with_reducible refine below_drewN ?_ _) | (with_reducible refine Below.drew ?_) | (with_reducible refine Below.alloc ?_ ?_ _) | (with_reducible refine Below.setCell ?_ ?_ _) | go_size))⟩
end Go.Proofs.YtfphmlmgjhebjaaGreatDoor

set_option linter.unusedVariables false
set_option linter.unusedSimpArgs false
namespace Go.Ulp
open Go.RowKit
def SL (w : World) (g : Nat) (L : List (Int × Int)) : Prop := ∀ i, i < L.length → w.cell? ⟨g, i * 2, none⟩ = some (.int .u64 (L.getD i (0, 0)).1) ∧ w.cell? ⟨g, i * 2 + 1, none⟩ = some (.int .u64 (L.getD i (0, 0)).2)
theorem SL.below {w w' : World} {g : Nat} {L : List (Int × Int)} (h : SL w g L) (hb : Below w.heap.size w w') : SL w' g L := fun i hi =>
  ⟨(hb.cell (p := ⟨g, i * 2, none⟩) (World.block_lt_of_cell? w _ (h i hi).1)).trans (h i hi).1, (hb.cell (p := ⟨g, i * 2 + 1, none⟩) (World.block_lt_of_cell? w _ (h i hi).2)).trans (h i hi).2⟩
def spansE (L : List (Int × Int)) : Int := if L.all (fun p => spanB p.1 p.2) = true then 0 else 3
theorem spansE_bad {L : List (Int × Int)} {k : Nat} (hk : k < L.length) (h : spanB (L.getD k (0, 0)).1 (L.getD k (0, 0)).2 = false) : 3 = spansE L := by
  unfold spansE
  rw [if_neg]
  intro ha
  have := List.all_eq_true.1 ha (L.getD k (0, 0)) (by simp [List.getD, List.getElem?_eq_getElem hk])
  rw [h] at this; cases this
theorem spansE_good {L : List (Int × Int)} (h : ∀ j, j < L.length → spanB (L.getD j (0, 0)).1 (L.getD j (0, 0)).2 = true) : 0 = spansE L := by
  unfold spansE
  rw [if_pos]
  rw [List.all_eq_true]
  intro p hp
  obtain ⟨j, hj, rfl⟩ := List.getElem_of_mem hp
  have := h j hj
  simpa [List.getD, List.getElem?_eq_getElem hj] using this
/-- a variable of four cells that may be written -/
def E0 (te : TypeId) (w : World) (g : Nat) : Prop :=
  ∃ c : Array Value, c.size = 4 ∧ (∀ i (h : i < c.size), w.cell? ⟨g, i, none⟩ = some c[i] ∧ w.frozen? ⟨g, i, none⟩ = false) ∧ ElemIs w g te
theorem E0.made {w : World} {te : TypeId} {c : Array Value} (hc : c.size = 4) : E0 te (w.alloc (.cells c te)) w.heap.size := by
  refine ⟨c, hc, fun i hi => ⟨?_, ?_⟩, ElemIs.made _ _ _⟩
  · rw [World.cell?_alloc_at (hn := rfl)]; exact Array.getElem?_eq_getElem hi
  · unfold World.frozen?; rw [heap_alloc_new]; simp
theorem E0.lt {w : World} {te : TypeId} {g : Nat} (h : E0 te w g) : g < w.heap.size := by obtain ⟨c, hc, h1, _⟩ := h; exact World.block_lt_of_cell? w _ (h1 0 (by omega)).1
theorem E0.below {w w' : World} {te : TypeId} {g : Nat} (h : E0 te w g) (hb : Below w.heap.size w w') : E0 te w' g := by
  have hl := h.lt
  obtain ⟨c, hc, h1, h2⟩ := h
  exact ⟨c, hc, fun i hi => ⟨(hb.cell (p := ⟨g, i, none⟩) hl).trans (h1 i hi).1, (hb.frozen (p := ⟨g, i, none⟩) hl).trans (h1 i hi).2⟩, h2.below hb⟩
theorem E0.cells {w : World} {te : TypeId} {g : Nat} (h : E0 te w g) : ∃ c0 c1 c2 c3, w.cell? ⟨g, 0, none⟩ = some c0 ∧ w.cell? ⟨g, 1, none⟩ = some c1 ∧ w.cell? ⟨g, 2, none⟩ = some c2 ∧ w.cell? ⟨g, 3, none⟩ = some c3 ∧ w.frozen? ⟨g, 0, none⟩ = false ∧ w.frozen? ⟨g, 1, none⟩ = false ∧ w.frozen? ⟨g, 2, none⟩ = false ∧ w.frozen? ⟨g, 3, none⟩ = false ∧ ElemIs w g te := by
  obtain ⟨c, hc, h1, h2⟩ := h
  exact ⟨_, _, _, _, (h1 0 (by omega)).1, (h1 1 (by omega)).1, (h1 2 (by omega)).1, (h1 3 (by omega)).1, (h1 0 (by omega)).2, (h1 1 (by omega)).2, (h1 2 (by omega)).2, (h1 3 (by omega)).2, h2⟩
def Fact.e0 (base : Nat) (te : TypeId) : Fact := ⟨fun v w => ∃ g, v = .pointer (some ⟨g, 0, none⟩) ∧ base ≤ g ∧ E0 te w g, fun _ _ _ h hb => by obtain ⟨g, h1, h2, h3⟩ := h; exact ⟨g, h1, h2, h3.below hb⟩⟩
theorem QD.setCell {t e : TypeId} {w : World} {D : Dy} {A T : Nat} {v : Value} (h : QD t w D A T v) {g : Nat} (hs : ElemIs w g e) (hne : e ≠ t) (o : Nat) (u : Value) : QD t (w.setCell ⟨g, o, none⟩ u) D A T v := by
  obtain ⟨x, n, ao, cap, h1, h2, h3⟩ := h
  exact ⟨x, n, ao, cap, h1, h2.setCell hs hne o u, h3⟩
theorem ED.setCell {t e : TypeId} {w : World} {x : Int} {v : Value} (h : ED t w x v) {g : Nat} (hs : ElemIs w g e) (hne : e ≠ t) (o : Nat) (u : Value) : ED t (w.setCell ⟨g, o, none⟩ u) x v := by
  obtain ⟨n, ao, l, c, t', way, h1, h2⟩ := h
  refine ⟨n, ao, l, c, t', way, h1, ?_⟩
  rcases h2 with ⟨h2, h3, h4⟩ | h2
  · exact .inl ⟨h2, h3, h4.setCell hs hne o u⟩
  · exact .inr h2
theorem ED.set4 {t e : TypeId} {w : World} {x : Int} {v : Value} (h : ED t w x v) {g : Nat} (hs : ElemIs w g e) (hne : e ≠ t) (u0 u1 u2 u3 : Value) : ED t ((((w.setCell ⟨g, 0, none⟩ u0).setCell ⟨g, 1, none⟩ u1).setCell ⟨g, 2, none⟩ u2).setCell ⟨g, 3, none⟩ u3) x v :=
  (((h.setCell hs hne _ _).setCell (hs.setCell _ _) hne _ _).setCell ((hs.setCell _ _).setCell _ _) hne _ _).setCell (((hs.setCell _ _).setCell _ _).setCell _ _) hne _ _
theorem ElemIs.set4 {w : World} {b : Nat} {t : TypeId} (h : ElemIs w b t) {g : Nat} (u0 u1 u2 u3 : Value) : ElemIs ((((w.setCell ⟨g, 0, none⟩ u0).setCell ⟨g, 1, none⟩ u1).setCell ⟨g, 2, none⟩ u2).setCell ⟨g, 3, none⟩ u3) b t :=
  (((h.setCell _ _).setCell _ _).setCell _ _).setCell _ _
theorem _root_.Go.RowKit.Below.set4 {B : Nat} {w w' : World} (h : Below B w w') {g : Nat} (hg : B ≤ g) (u0 u1 u2 u3 : Value) : Below B w ((((w'.setCell ⟨g, 0, none⟩ u0).setCell ⟨g, 1, none⟩ u1).setCell ⟨g, 2, none⟩ u2).setCell ⟨g, 3, none⟩ u3) :=
  (((h.setCell hg _).setCell hg _).setCell hg _).setCell hg _
theorem wp_worldS {P : Program} {c : Code} {Q : Exit → Act → World → Prop} {a : Act} {w0 : World} (F : World → Prop) (hF : F w0) (h : ∀ w, F w → Code.wp P c Q a w) : Code.wp P c Q a w0 := h w0 hF
theorem way_one {x : Int} (h0 : 0 ≤ x) (h1 : x < 18446744073709551616) (hn : nanB x = false) (hv : valB x = false) : (negB x = false → x = 9218868437227405312) ∧ (negB x = true → x = 18442240474082181120) := by
  have a := class_nan x h0 h1
  have b := class_val x h0 h1
  have c := class_bd x
  unfold nanB at hn; unfold valB at hv
  have hn' : classOf x ≠ 5 := by simpa using hn
  have hv' : ¬ classOf x < 4 := by simpa using hv
  unfold absOf at a b
  unfold negB
  constructor
  · intro h; have h' : ¬ 9223372036854775808 ≤ x := by simpa using h
    omega
  · intro h; have h' : 9223372036854775808 ≤ x := by simpa using h
    omega
theorem span_flags {l h : Int} (ul : U64 l) (uh : U64 h) {b : Bool} (hb : b = (nanB l || nanB h || (zeroB l && negB l) || (zeroB h && negB h))) :
    (b = true → spanB l h = false) ∧ (b = false → nanB l = false ∧ nanB h = false ∧ l ≠ 9223372036854775808 ∧ h ≠ 9223372036854775808) := by
  rw [minus_zero l ul.1 ul.2, minus_zero h uh.1 uh.2] at hb
  subst hb
  constructor
  · intro hb
    simp only [Bool.or_eq_true, decide_eq_true_eq, nanB] at hb
    unfold spanB edgeB leB
    rcases hb with ((hb | hb) | hb) | hb
    · simp [hb]
    · simp [hb]
    · simp [hb]
    · simp [hb]
  · intro hb
    simp only [Bool.or_eq_false_iff, decide_eq_false_iff_not] at hb
    exact ⟨hb.1.1.1, hb.1.1.2, hb.1.2, hb.2⟩
theorem span_end {l h : Int} (nl : nanB l = false) (nh : nanB h = false) (zl : l ≠ 9223372036854775808) (zh : h ≠ 9223372036854775808) (il : l ≠ 9218868437227405312) (ih : h ≠ 18442240474082181120) :
    spanB l h = decide (cmpI (rankOf l) (rankOf h) ≤ 0) := by
  unfold nanB at nl nh
  have nl' : classOf l ≠ 5 := by simpa using nl
  have nh' : classOf h ≠ 5 := by simpa using nh
  unfold spanB edgeB leB
  rw [Bool.eq_iff_iff]
  simp [nl', nh', zl, zh, il, ih, cmpI_leS]
end Go.Ulp
namespace Go.Proofs.YtfphmlmgjhebjaaGreatDoor
open Go.RowKit Go.Ulp
set_option linter.unusedVariables false
set_option linter.unusedSimpArgs false
set_option maxHeartbeats 2000000
set_option maxRecDepth 100000
theorem spansRight_any (L : List (Int × Int)) (hL : ∀ j, j < L.length → U64 (L.getD j (0, 0)).1 ∧ U64 (L.getD j (0, 0)).2) (hlen : L.length ≤ 1000) (g cap : Nat) (w : World) (hcl : SL w g L) :
    Calls Tryz.prog 11 #[.slice (some ⟨g, 0, none⟩) L.length cap] w fun e w' => e = .returned (.int .i64 (spansE L)) ∧ Below w.heap.size w w' := by
  have HL := hid hL
  have HC := hid hcl
  clear hL hcl
  obtain ⟨n, hn⟩ : ∃ n, n = L.length := ⟨_, rfl⟩
  have HN := hid hn
  rw [← hn]
  rw [← hn] at hlen
  clear hn
  go_enter Tryz.func11, Tryz.ntmps11
  go_wp2_with fail
  go_loopw [9] (fun s9 wr => ∃ k : Nat, s9 = .int .i64 (k : Int) ∧ k ≤ n ∧ (∀ j, j < k → spanB (L.getD j (0, 0)).1 (L.getD j (0, 0)).2 = true) ∧ Below w.heap.size w wr) (fun s9 _ => n - (intOf s9).toNat)
  case atStart => exact ⟨0, rfl, by omega, fun j hj => by omega, Below.refl _ _⟩
  case round =>
    obtain ⟨k, rfl, hk, hall, hbw⟩ := hrel
    have HALL := hid hall
    clear hall
    by_cases hkn : k < n
    · obtain ⟨l, hl⟩ : ∃ l, l = (L.getD k (0, 0)).1 := ⟨_, rfl⟩
      obtain ⟨h, hh⟩ : ∃ h, h = (L.getD k (0, 0)).2 := ⟨_, rfl⟩
      obtain ⟨c0, c1⟩ := (HC.out.below hbw) k (by rw [← HN.out]; exact hkn)
      obtain ⟨ul, uh⟩ := HL.out k (by rw [← HN.out]; exact hkn)
      rw [← hl] at c0 ul
      rw [← hh] at c1 uh
      have HBAD := hid (fun hf : spanB l h = false => spansE_bad (L := L) (k := k) (by rw [← HN.out]; exact hkn) (by rw [← hl, ← hh]; exact hf))
      have HGOOD := hid (fun ht : spanB l h = true => show ∀ j, j < k + 1 → spanB (L.getD j (0, 0)).1 (L.getD j (0, 0)).2 = true from fun j hj => by
        by_cases e : j = k
        · subst e; rw [← hl, ← hh]; exact ht
        · exact HALL.out j (by omega))
      clear hl hh HALL
      have N1 := hid (fun w => isNan_any l ul w)
      have N2 := hid (fun w => isNan_any h uh w)
      have Z1 := hid (fun w => isZeroS_any l ul w)
      have Z2 := hid (fun w => isZeroS_any h uh w)
      have M1 := hid (fun w => minus_any' l w)
      have M2 := hid (fun w => minus_any' h w)
      go_upto_region 4 with fail
      have zV : SV (wr.alloc (.cells #[.int .u64 l, .int .u64 h] 24)) wr.heap.size l h := SV.made rfl
      have hbv : Below w.heap.size w (wr.alloc (.cells #[.int .u64 l, .int .u64 h] 24)) := hbw.alloc hbw.size _
      obtain ⟨v0, v1, -, -⟩ := id zV
      obtain ⟨b, hbq⟩ : ∃ b : Bool, b = (nanB l || nanB h || (zeroB l && negB l) || (zeroB h && negB h)) := ⟨_, rfl⟩
      have HB := hid hbq
      clear hbq
      have ZV := hid zV
      have HBV := hid hbv
      clear zV hbv c0 c1 hbw
      go_cut [40] (fun s40 wx => s40 = .bool b ∧ wx = wr.alloc (.cells #[.int .u64 l, .int .u64 h] 24))
      case first => as_aux_lemma =>
        clear HBAD HGOOD HC HL HBV ZV
        cases h1 : nanB l
        · cases h2 : nanB h
          · cases h3 : zeroB l
            · cases h5 : zeroB h
              · have hb' := HB.out
                simp [h1, h2, h3, h5] at hb'
                subst hb'
                go_wp2_with (first | (go_at_call 49; (first | ((with_reducible refine (N1.out _).mono ?_)) | ((with_reducible refine (N2.out _).mono ?_))); rintro e w' ⟨rfl, rfl⟩) | (go_at_call 50; (first | ((with_reducible refine (Z1.out _).mono ?_)) | ((with_reducible refine (Z2.out _).mono ?_))); rintro e w' ⟨rfl, rfl⟩) | (go_at_call 51; (first | ((with_reducible refine (M1.out _).mono ?_)) | ((with_reducible refine (M2.out _).mono ?_))); rintro e w' ⟨rfl, rfl⟩))
                go_meet
                exact ⟨rfl, rfl⟩
              · cases h6 : negB h
                · have hb' := HB.out
                  simp [h1, h2, h3, h5, h6] at hb'
                  subst hb'
                  go_wp2_with (first | (go_at_call 49; (first | ((with_reducible refine (N1.out _).mono ?_)) | ((with_reducible refine (N2.out _).mono ?_))); rintro e w' ⟨rfl, rfl⟩) | (go_at_call 50; (first | ((with_reducible refine (Z1.out _).mono ?_)) | ((with_reducible refine (Z2.out _).mono ?_))); rintro e w' ⟨rfl, rfl⟩) | (go_at_call 51; (first | ((with_reducible refine (M1.out _).mono ?_)) | ((with_reducible refine (M2.out _).mono ?_))); rintro e w' ⟨rfl, rfl⟩))
                  go_meet
                  exact ⟨rfl, rfl⟩
                · have hb' := HB.out
                  simp [h1, h2, h3, h5, h6] at hb'
                  subst hb'
                  go_wp2_with (first | (go_at_call 49; (first | ((with_reducible refine (N1.out _).mono ?_)) | ((with_reducible refine (N2.out _).mono ?_))); rintro e w' ⟨rfl, rfl⟩) | (go_at_call 50; (first | ((with_reducible refine (Z1.out _).mono ?_)) | ((with_reducible refine (Z2.out _).mono ?_))); rintro e w' ⟨rfl, rfl⟩) | (go_at_call 51; (first | ((with_reducible refine (M1.out _).mono ?_)) | ((with_reducible refine (M2.out _).mono ?_))); rintro e w' ⟨rfl, rfl⟩))
                  go_meet
                  exact ⟨rfl, rfl⟩
            · cases h4 : negB l
              · cases h5 : zeroB h
                · have hb' := HB.out
                  simp [h1, h2, h3, h4, h5] at hb'
                  subst hb'
                  go_wp2_with (first | (go_at_call 49; (first | ((with_reducible refine (N1.out _).mono ?_)) | ((with_reducible refine (N2.out _).mono ?_))); rintro e w' ⟨rfl, rfl⟩) | (go_at_call 50; (first | ((with_reducible refine (Z1.out _).mono ?_)) | ((with_reducible refine (Z2.out _).mono ?_))); rintro e w' ⟨rfl, rfl⟩) | (go_at_call 51; (first | ((with_reducible refine (M1.out _).mono ?_)) | ((with_reducible refine (M2.out _).mono ?_))); rintro e w' ⟨rfl, rfl⟩))
                  go_meet
                  exact ⟨rfl, rfl⟩
                · cases h6 : negB h
                  · have hb' := HB.out
                    simp [h1, h2, h3, h4, h5, h6] at hb'
                    subst hb'
                    go_wp2_with (first | (go_at_call 49; (first | ((with_reducible refine (N1.out _).mono ?_)) | ((with_reducible refine (N2.out _).mono ?_))); rintro e w' ⟨rfl, rfl⟩) | (go_at_call 50; (first | ((with_reducible refine (Z1.out _).mono ?_)) | ((with_reducible refine (Z2.out _).mono ?_))); rintro e w' ⟨rfl, rfl⟩) | (go_at_call 51; (first | ((with_reducible refine (M1.out _).mono ?_)) | ((with_reducible refine (M2.out _).mono ?_))); rintro e w' ⟨rfl, rfl⟩))
                    go_meet
                    exact ⟨rfl, rfl⟩
                  · have hb' := HB.out
                    simp [h1, h2, h3, h4, h5, h6] at hb'
                    subst hb'
                    go_wp2_with (first | (go_at_call 49; (first | ((with_reducible refine (N1.out _).mono ?_)) | ((with_reducible refine (N2.out _).mono ?_))); rintro e w' ⟨rfl, rfl⟩) | (go_at_call 50; (first | ((with_reducible refine (Z1.out _).mono ?_)) | ((with_reducible refine (Z2.out _).mono ?_))); rintro e w' ⟨rfl, rfl⟩) | (go_at_call 51; (first | ((with_reducible refine (M1.out _).mono ?_)) | ((with_reducible refine (M2.out _).mono ?_))); rintro e w' ⟨rfl, rfl⟩))
                    go_meet
                    exact ⟨rfl, rfl⟩
              · have hb' := HB.out
                simp [h1, h2, h3, h4] at hb'
                subst hb'
                go_wp2_with (first | (go_at_call 49; (first | ((with_reducible refine (N1.out _).mono ?_)) | ((with_reducible refine (N2.out _).mono ?_))); rintro e w' ⟨rfl, rfl⟩) | (go_at_call 50; (first | ((with_reducible refine (Z1.out _).mono ?_)) | ((with_reducible refine (Z2.out _).mono ?_))); rintro e w' ⟨rfl, rfl⟩) | (go_at_call 51; (first | ((with_reducible refine (M1.out _).mono ?_)) | ((with_reducible refine (M2.out _).mono ?_))); rintro e w' ⟨rfl, rfl⟩))
                go_meet
                exact ⟨rfl, rfl⟩
          · have hb' := HB.out
            simp [h1, h2] at hb'
            subst hb'
            go_wp2_with (first | (go_at_call 49; (first | ((with_reducible refine (N1.out _).mono ?_)) | ((with_reducible refine (N2.out _).mono ?_))); rintro e w' ⟨rfl, rfl⟩) | (go_at_call 50; (first | ((with_reducible refine (Z1.out _).mono ?_)) | ((with_reducible refine (Z2.out _).mono ?_))); rintro e w' ⟨rfl, rfl⟩) | (go_at_call 51; (first | ((with_reducible refine (M1.out _).mono ?_)) | ((with_reducible refine (M2.out _).mono ?_))); rintro e w' ⟨rfl, rfl⟩))
            go_meet
            exact ⟨rfl, rfl⟩
        · have hb' := HB.out
          simp [h1] at hb'
          subst hb'
          go_wp2_with (first | (go_at_call 49; (first | ((with_reducible refine (N1.out _).mono ?_)) | ((with_reducible refine (N2.out _).mono ?_))); rintro e w' ⟨rfl, rfl⟩) | (go_at_call 50; (first | ((with_reducible refine (Z1.out _).mono ?_)) | ((with_reducible refine (Z2.out _).mono ?_))); rintro e w' ⟨rfl, rfl⟩) | (go_at_call 51; (first | ((with_reducible refine (M1.out _).mono ?_)) | ((with_reducible refine (M2.out _).mono ?_))); rintro e w' ⟨rfl, rfl⟩))
          go_meet
          exact ⟨rfl, rfl⟩
      case rest =>
        obtain ⟨rfl, rfl⟩ := hcut
        obtain ⟨fb1, fb2⟩ := span_flags ul uh HB.out
        clear N1 N2 Z1 Z2 M1 M2 HB
        cases hbb : b
        · obtain ⟨nl, nh, zl, zh⟩ := fb2 hbb
          clear fb1 fb2 hbb
          have EL := hid (fun w => extOf_any l ul nl w)
          have EH := hid (fun w => extOf_any h uh nh w)
          go_wp2_with fail
          refine wp_region_growF 8 [41, 42, 43, 44, 45, 46, 5, 6] [Fact.is (.pointer (some ⟨wr.heap.size, 0, none⟩)), Fact.is (.int .u64 l), Fact.e 3 l, Fact.is (.pointer (some ⟨wr.heap.size, 1, none⟩)), Fact.is (.int .u64 h), Fact.e 3 h, Fact.e0 (wr.heap.size + 1) 35, Fact.e0 (wr.heap.size + 1) 35] [6, 7] (by kernel_rfl) (by kernel_rfl) ⟨?o0, ?o1, ?o2, ?o3, ?o4, ?o5, ?o6, ?o7, trivial⟩ ?after
          case o0 => (refine StepOKF.plain rfl ?_; intro ρ w1 R hρ hb hp hR; have e4 : ρ (.tmp 4) = .pointer (some ⟨wr.heap.size, 0, none⟩) := hρ.tmp 4 rfl; replace hR := fun v w2 h1 h2 => hR v w2 h1 h2 (fun h => absurd h (by decide)); have hcon := hρ.con; have hfn := hρ.fn; clear hρ hp; unfold OpRun; go_simp; exact hR _ _ (Below.refl _ _) rfl)
          case o1 => (refine StepOKF.plain rfl ?_; intro ρ w1 R hρ hb hp hR; have e41 : ρ (.tmp 41) = _ := hp 0 41 rfl rfl; obtain ⟨j0, j1, j2, j3⟩ := ZV.out.below hb; replace hR := fun v w2 h1 h2 => hR v w2 h1 h2 (fun h => absurd h (by decide)); have hcon := hρ.con; have hfn := hρ.fn; clear hρ hp; unfold OpRun; go_simp; exact hR _ _ (Below.refl _ _) rfl)
          case o2 => (refine StepOKF.plain rfl ?_; intro ρ w1 R hρ hb hp hR; have e42 : ρ (.tmp 42) = _ := hp 1 42 rfl rfl; replace hR := fun v w2 h1 h2 => hR v w2 h1 h2 (fun h => absurd h (by decide)); have hcon := hρ.con; have hfn := hρ.fn; clear hρ hp; unfold OpRun; go_simp; (refine (EL.out _).mono ?_; rintro e wn ⟨v, rfl, hE, hbn⟩; exact ⟨_, rfl, hR _ _ hbn hE⟩))
          case o3 => (refine StepOKF.plain rfl ?_; intro ρ w1 R hρ hb hp hR; have e4 : ρ (.tmp 4) = .pointer (some ⟨wr.heap.size, 0, none⟩) := hρ.tmp 4 rfl; replace hR := fun v w2 h1 h2 => hR v w2 h1 h2 (fun h => absurd h (by decide)); have hcon := hρ.con; have hfn := hρ.fn; clear hρ hp; unfold OpRun; go_simp; exact hR _ _ (Below.refl _ _) rfl)
          case o4 => (refine StepOKF.plain rfl ?_; intro ρ w1 R hρ hb hp hR; have e44 : ρ (.tmp 44) = _ := hp 3 44 rfl rfl; obtain ⟨j0, j1, j2, j3⟩ := ZV.out.below hb; replace hR := fun v w2 h1 h2 => hR v w2 h1 h2 (fun h => absurd h (by decide)); have hcon := hρ.con; have hfn := hρ.fn; clear hρ hp; unfold OpRun; go_simp; exact hR _ _ (Below.refl _ _) rfl)
          case o5 => (refine StepOKF.plain rfl ?_; intro ρ w1 R hρ hb hp hR; have e45 : ρ (.tmp 45) = _ := hp 4 45 rfl rfl; replace hR := fun v w2 h1 h2 => hR v w2 h1 h2 (fun h => absurd h (by decide)); have hcon := hρ.con; have hfn := hρ.fn; clear hρ hp; unfold OpRun; go_simp; (refine (EH.out _).mono ?_; rintro e wn ⟨v, rfl, hE, hbn⟩; exact ⟨_, rfl, hR _ _ hbn hE⟩))
          case o6 => (refine StepOKF.plain rfl ?_; intro ρ w1 R hρ hb hp hR; have hcon := hρ.con; have hfn := hρ.fn; clear hρ hp; unfold OpRun; go_simp; exact hR _ _ (below_alloc _ _) ⟨_, rfl, by have := hb.size; simpa using this, E0.made rfl⟩ (fun _ => ⟨_, rfl, Nat.le_refl _, by simp⟩))
          case o7 => (refine StepOKF.plain rfl ?_; intro ρ w1 R hρ hb hp hR; have hcon := hρ.con; have hfn := hρ.fn; clear hρ hp; unfold OpRun; go_simp; exact hR _ _ (below_alloc _ _) ⟨_, rfl, by have := hb.size; simpa using this, E0.made rfl⟩ (fun _ => ⟨_, rfl, Nat.le_refl _, by simp⟩))
          case after =>
            intro u wn hb hf hd
            have f43 := hf 2 43 (by omega) rfl
            have f46 := hf 5 46 (by omega) rfl
            have f5 := hf 6 5 (by omega) rfl
            have f6 := hf 7 6 (by omega) rfl
            have d5_6 : u 5 ≠ u 6 := hd 6 7 5 6 (by omega) (by omega) (by omega) rfl rfl rfl rfl
            clear hf hd
            simp only [putAll, Act.put, List.setIfInBounds_toArray, List.set_cons_zero, List.set_cons_succ, List.drop_succ_cons, List.drop_zero, List.drop_nil]
            obtain ⟨g5, e5, hg5, z5⟩ := f5
            obtain ⟨g6, e6, hg6, z6⟩ := f6
            have hne : g5 ≠ g6 := fun hh => d5_6 (by rw [e5, e6, hh])
            have hE1 := hid f43
            have hE2 := hid f46
            obtain ⟨n1, a1, l1, c1, t1, way1, e43, q1⟩ := f43
            obtain ⟨n2, a2, l2, c2, t2, way2, e46, q2⟩ := f46
            rw [e43] at hE1
            rw [e46] at hE2
            have yb : Below w.heap.size w wn := below_trans HBV.out hb
            have hgw5 : w.heap.size ≤ g5 := by have := HBV.out.size; simp at this; omega
            have hgw6 : w.heap.size ≤ g6 := by have := HBV.out.size; simp at this; omega
            obtain ⟨x0, x1, x2, x3, i0, i1, i2, i3, i4, i5, i6, i7, s5⟩ := z5.cells
            obtain ⟨y0, y1, y2, y3, j0, j1, j2, j3, j4, j5, j6, j7, s6⟩ := z6.cells
            have HQ1 := hid q1
            have HQ2 := hid q2
            have Hyb := hid yb
            rw [e43, e46, e5, e6]
            clear d5_6 e43 e46 e5 e6 hb z5 z6 q1 q2 yb HBV ZV EL EH
            have HI := hid (way_one ul.1 ul.2 nl)
            have HJ := hid (way_one uh.1 uh.2 nh)
            by_cases hw1 : way1 = 1
            · have b1 : (way1 == 1) = true := by simpa using hw1
              have HF := hid (HBAD.out (by
                rcases HQ1.out with ⟨_, e, _⟩ | ⟨e1, e2⟩
                · omega
                · have := (HI.out e1).1 (by cases hg : negB l <;> rw [hg] at e2 <;> simp at e2 <;> first | rfl | omega)
                  unfold spanB edgeB; simp [this]))
              clear hw1
              go_wp2_with fail
              go_ret
              exact ⟨ret_int HF.out, (Hyb.out.set4 hgw5 _ _ _ _).set4 hgw6 _ _ _ _⟩
            · have b1 : (way1 == 1) = false := by simpa using hw1
              by_cases hw2 : way2 = -1
              · have b2 : (way2 == -1) = true := by simpa using hw2
                have HF := hid (HBAD.out (by
                  rcases HQ2.out with ⟨_, e, _⟩ | ⟨e1, e2⟩
                  · omega
                  · have := (HJ.out e1).2 (by cases hg : negB h <;> rw [hg] at e2 <;> simp at e2 <;> first | rfl | omega)
                    unfold spanB edgeB; simp [this]))
                clear hw1 hw2
                go_wp2_with fail
                go_ret
                exact ⟨ret_int HF.out, (Hyb.out.set4 hgw5 _ _ _ _).set4 hgw6 _ _ _ _⟩
              · have b2 : (way2 == -1) = false := by simpa using hw2
                have hi1 : l ≠ 9218868437227405312 := by
                  intro e
                  rcases HQ1.out with ⟨e0, _, _⟩ | ⟨e1, e2⟩
                  · subst e; revert e0; decide
                  · subst e; exact hw1 (by rw [e2]; decide)
                have hi2 : h ≠ 18442240474082181120 := by
                  intro e
                  rcases HQ2.out with ⟨e0, _, _⟩ | ⟨e1, e2⟩
                  · subst e; revert e0; decide
                  · subst e; exact hw2 (by rw [e2]; decide)
                have hse := span_end nl nh zl zh hi1 hi2
                obtain ⟨c, hcc⟩ : ∃ c, c = cmpI (rankOf l) (rankOf h) := ⟨_, rfl⟩
                rw [← hcc] at hse
                have EC := hid (fun (W : World) (x : ED 3 W l (.agg #[.bool n1, .slice a1 l1 c1, .int .i64 t1, .int .i64 way1])) (y : ED 3 W h (.agg #[.bool n2, .slice a2 l2 c2, .int .i64 t2, .int .i64 way2])) => extCmp_any _ _ l h ul uh nl nh W x y)
                rw [← hcc] at EC
                have h5 : (35 : TypeId) ≠ 3 := by decide
                clear hw1 hw2 hcc HI HJ HQ1 HQ2 hi1 hi2
                by_cases hgt : 0 < c
                · have HF := hid (HBAD.out (by rw [hse]; simp; omega))
                  clear hse
                  go_wp2_with fail
                  refine (EC.out _ ((ED.set4 hE1.out s5 h5 _ _ _ _).set4 (s6.set4 _ _ _ _) h5 _ _ _ _) ((ED.set4 hE2.out s5 h5 _ _ _ _).set4 (s6.set4 _ _ _ _) h5 _ _ _ _)).mono ?_
                  rintro e w9 ⟨rfl, hb9⟩
                  go_wp2_with fail
                  go_ret
                  exact ⟨ret_int HF.out, below_trans ((Hyb.out.set4 hgw5 _ _ _ _).set4 hgw6 _ _ _ _) hb9⟩
                · have HG := hid (HGOOD.out (by rw [hse]; simp; omega))
                  clear hse
                  go_wp2_with fail
                  refine (EC.out _ ((ED.set4 hE1.out s5 h5 _ _ _ _).set4 (s6.set4 _ _ _ _) h5 _ _ _ _) ((ED.set4 hE2.out s5 h5 _ _ _ _).set4 (s6.set4 _ _ _ _) h5 _ _ _ _)).mono ?_
                  rintro e w9 ⟨rfl, hb9⟩
                  go_wp2_with fail
                  go_roundw
                  case rel => exact ⟨k + 1, by go_num, by omega, HG.out, below_trans ((Hyb.out.set4 hgw5 _ _ _ _).set4 hgw6 _ _ _ _) hb9⟩
                  case measure => simp [intOf]; omega
        · have HF := hid (HBAD.out (fb1 hbb))
          clear fb1 fb2
          subst hbb
          go_wp2_with fail
          go_ret
          exact ⟨ret_int HF.out, HBV.out⟩
    · obtain rfl : k = n := by omega
      have HF := hid (spansE_good (L := L) (fun j hj => HALL.out j (by rw [HN.out]; exact hj)))
      go_wp2_with fail
      go_ret
      exact ⟨ret_int HF.out, hbw⟩
end Go.Proofs.YtfphmlmgjhebjaaGreatDoor

set_option linter.unusedVariables false
set_option linter.unusedSimpArgs false
namespace Go.Ulp
open Go.RowKit
theorem SL.made2 {w : World} {l h m i : Int} {t : TypeId} : SL (w.alloc (.cells #[.int .u64 l, .int .u64 h, .int .u64 m, .int .u64 i] t)) w.heap.size [(l, h), (m, i)] := by
  intro k hk
  rcases (show k = 0 ∨ k = 1 by simp at hk; omega) with e | e <;> subst e
  · refine ⟨?_, ?_⟩ <;> (rw [World.cell?_alloc_at (hn := rfl)]; rfl)
  · refine ⟨?_, ?_⟩ <;> (rw [World.cell?_alloc_at (hn := rfl)]; rfl)
/-- what stays through the law -/
def LS (w W : World) (gA gB gO gH gM : Nat) (al ah bl bh o1 o2 h1 h2 m1 m2 : Int) : Prop :=
  Below w.heap.size w W ∧ SV W gA al ah ∧ SV W gB bl bh ∧ SV W gO o1 o2 ∧ SV W gH h1 h2 ∧ SV W gM m1 m2
theorem LS.below {w W W' : World} {gA gB gO gH gM : Nat} {al ah bl bh o1 o2 h1 h2 m1 m2 : Int} (h : LS w W gA gB gO gH gM al ah bl bh o1 o2 h1 h2 m1 m2) (hb : Below W.heap.size W W') : LS w W' gA gB gO gH gM al ah bl bh o1 o2 h1 h2 m1 m2 :=
  ⟨below_trans h.1 hb, h.2.1.below hb, h.2.2.1.below hb, h.2.2.2.1.below hb, h.2.2.2.2.1.below hb, h.2.2.2.2.2.below hb⟩
/-- block g is a variable of four cells -/
def XV (w : World) (g : Nat) (c0 c1 c2 c3 : Value) : Prop := w.cell? ⟨g, 0, none⟩ = some c0 ∧ w.cell? ⟨g, 1, none⟩ = some c1 ∧ w.cell? ⟨g, 2, none⟩ = some c2 ∧ w.cell? ⟨g, 3, none⟩ = some c3
theorem XV.below {w w' : World} {g : Nat} {c0 c1 c2 c3 : Value} (h : XV w g c0 c1 c2 c3) (hb : Below w.heap.size w w') : XV w' g c0 c1 c2 c3 := by
  have hl : g < w.heap.size := World.block_lt_of_cell? w _ h.1
  exact ⟨(hb.cell (p := ⟨g, 0, none⟩) hl).trans h.1, (hb.cell (p := ⟨g, 1, none⟩) hl).trans h.2.1, (hb.cell (p := ⟨g, 2, none⟩) hl).trans h.2.2.1, (hb.cell (p := ⟨g, 3, none⟩) hl).trans h.2.2.2⟩
theorem XV.made {w : World} {c0 c1 c2 c3 : Value} {t : TypeId} : XV (w.alloc (.cells #[c0, c1, c2, c3] t)) w.heap.size c0 c1 c2 c3 := by
  refine ⟨?_, ?_, ?_, ?_⟩ <;> (rw [World.cell?_alloc_at (hn := rfl)]; rfl)
theorem SV.far {w : World} {g : Nat} {l h : Int} (hs : SV w g l h) (a : Addr) (u : Value) (hne : g ≠ a.block) : SV (w.setCell a u) g l h := by
  obtain ⟨h1, h2, h3, h4⟩ := hs
  refine ⟨?_, ?_, ?_, ?_⟩
  · rw [World.cell?_setCell_other (h := fun e => hne (by rw [e]))]; exact h1
  · rw [World.cell?_setCell_other (h := fun e => hne (by rw [e]))]; exact h2
  · rw [frozen_setCell]; exact h3
  · rw [frozen_setCell]; exact h4
theorem SV.set0 {w : World} {g : Nat} {l h : Int} (hs : SV w g l h) (u : Int) : SV (w.setCell ⟨g, 0, none⟩ (.int .u64 u)) g u h := by
  obtain ⟨h1, h2, h3, h4⟩ := hs
  refine ⟨?_, ?_, ?_, ?_⟩
  · exact World.cell?_setCell_same (w := w) _ _ h1
  · rw [World.cell?_setCell_other (h := fun e => by simp at e)]; exact h2
  · rw [frozen_setCell]; exact h3
  · rw [frozen_setCell]; exact h4
theorem SV.set1 {w : World} {g : Nat} {l h : Int} (hs : SV w g l h) (u : Int) : SV (w.setCell ⟨g, 1, none⟩ (.int .u64 u)) g l u := by
  obtain ⟨h1, h2, h3, h4⟩ := hs
  refine ⟨?_, ?_, ?_, ?_⟩
  · rw [World.cell?_setCell_other (h := fun e => by simp at e)]; exact h1
  · exact World.cell?_setCell_same (w := w) _ _ h2
  · rw [frozen_setCell]; exact h3
  · rw [frozen_setCell]; exact h4
theorem LS.far {w W : World} {gA gB gO gH gM : Nat} {al ah bl bh o1 o2 h1 h2 m1 m2 : Int} (h : LS w W gA gB gO gH gM al ah bl bh o1 o2 h1 h2 m1 m2) (a : Addr) (u : Value) (hw : w.heap.size ≤ a.block) (hA : gA ≠ a.block) (hB : gB ≠ a.block) (hO : gO ≠ a.block) (hH : gH ≠ a.block) (hM : gM ≠ a.block) : LS w (W.setCell a u) gA gB gO gH gM al ah bl bh o1 o2 h1 h2 m1 m2 :=
  ⟨h.1.setCell hw u, h.2.1.far a u hA, h.2.2.1.far a u hB, h.2.2.2.1.far a u hO, h.2.2.2.2.1.far a u hH, h.2.2.2.2.2.far a u hM⟩
/-- the hull and the meet beside it -/
def LQ (w W : World) (gA gB gO gH gM g g' : Nat) (al ah bl bh o1 o2 h1 h2 m1 m2 x y z v : Int) : Prop :=
  LS w W gA gB gO gH gM al ah bl bh o1 o2 h1 h2 m1 m2 ∧ SV W g x y ∧ SV W g' z v
theorem LQ.below {w W W' : World} {gA gB gO gH gM g g' : Nat} {al ah bl bh o1 o2 h1 h2 m1 m2 x y z v : Int} (h : LQ w W gA gB gO gH gM g g' al ah bl bh o1 o2 h1 h2 m1 m2 x y z v) (hb : Below W.heap.size W W') : LQ w W' gA gB gO gH gM g g' al ah bl bh o1 o2 h1 h2 m1 m2 x y z v :=
  ⟨h.1.below hb, h.2.1.below hb, h.2.2.below hb⟩
theorem LQ.set {w W : World} {gA gB gO gH gM g g' : Nat} {al ah bl bh o1 o2 h1 h2 m1 m2 x y z v : Int} (h : LQ w W gA gB gO gH gM g g' al ah bl bh o1 o2 h1 h2 m1 m2 x y z v)
    (hw : w.heap.size ≤ g ∧ w.heap.size ≤ g') (hg : gA ≠ g ∧ gB ≠ g ∧ gO ≠ g ∧ gH ≠ g ∧ gM ≠ g) (hg' : gA ≠ g' ∧ gB ≠ g' ∧ gO ≠ g' ∧ gH ≠ g' ∧ gM ≠ g') (hne : g ≠ g') (u : Int) :
    LQ w (W.setCell ⟨g, 0, none⟩ (.int .u64 u)) gA gB gO gH gM g g' al ah bl bh o1 o2 h1 h2 m1 m2 u y z v ∧ LQ w (W.setCell ⟨g, 1, none⟩ (.int .u64 u)) gA gB gO gH gM g g' al ah bl bh o1 o2 h1 h2 m1 m2 x u z v ∧
    LQ w (W.setCell ⟨g', 0, none⟩ (.int .u64 u)) gA gB gO gH gM g g' al ah bl bh o1 o2 h1 h2 m1 m2 x y u v ∧ LQ w (W.setCell ⟨g', 1, none⟩ (.int .u64 u)) gA gB gO gH gM g g' al ah bl bh o1 o2 h1 h2 m1 m2 x y z u := by
  obtain ⟨h1, h2, h3⟩ := h
  exact ⟨⟨h1.far _ _ hw.1 hg.1 hg.2.1 hg.2.2.1 hg.2.2.2.1 hg.2.2.2.2, h2.set0 u, h3.far _ _ (Ne.symm hne)⟩, ⟨h1.far _ _ hw.1 hg.1 hg.2.1 hg.2.2.1 hg.2.2.2.1 hg.2.2.2.2, h2.set1 u, h3.far _ _ (Ne.symm hne)⟩,
    ⟨h1.far _ _ hw.2 hg'.1 hg'.2.1 hg'.2.2.1 hg'.2.2.2.1 hg'.2.2.2.2, h2.far _ _ hne, h3.set0 u⟩, ⟨h1.far _ _ hw.2 hg'.1 hg'.2.1 hg'.2.2.1 hg'.2.2.2.1 hg'.2.2.2.2, h2.far _ _ hne, h3.set1 u⟩⟩
end Go.Ulp
namespace Go.Proofs.YtfphmlmgjhebjaaGreatDoor
open Go.RowKit Go.Ulp
set_option linter.unusedVariables false
set_option linter.unusedSimpArgs false
set_option maxHeartbeats 4000000
set_option maxRecDepth 100000
theorem spansE_two (l h m i : Int) : spansE [(l, h), (m, i)] = checkE l h m i := by unfold spansE checkE spanE; cases h1 : spanB l h <;> cases h2 : spanB m i <;> simp [h1, h2]
end Go.Proofs.YtfphmlmgjhebjaaGreatDoor
