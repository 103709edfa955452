/- The spans of the program: checked, asked, joined. -/
import Derived.Test.YtdoiobdomngccaaSp1
import Derived.Test.YtdoiobdomngccaaReg
namespace Go.Ulp
open Go.RowKit
theorem spanB_facts {l h : Int} (hs : spanB l h = true) : l ≠ 9223372036854775808 ∧ h ≠ 9223372036854775808 ∧ l ≠ 9218868437227405312 ∧ h ≠ 18442240474082181120 ∧ classOf l ≠ 5 ∧ classOf h ≠ 5 ∧ rankOf l ≤ rankOf h := by
  unfold spanB edgeB leB at hs
  simp only [Bool.and_eq_true, decide_eq_true_eq] at hs
  exact ⟨hs.1.1, hs.1.2.1, hs.1.2.2.1, hs.1.2.2.2, hs.2.1, hs.2.2.1, hs.2.2.2⟩
/-- block g is a variable of two numbers -/
def SV (w : World) (g : Nat) (l h : Int) : Prop := w.cell? ⟨g, 0, none⟩ = some (.int .u64 l) ∧ w.cell? ⟨g, 1, none⟩ = some (.int .u64 h) ∧ w.frozen? ⟨g, 0, none⟩ = false ∧ w.frozen? ⟨g, 1, none⟩ = false
theorem SV.lt {w : World} {g : Nat} {l h : Int} (hs : SV w g l h) : g < w.heap.size := World.block_lt_of_cell? w _ hs.1
theorem SV.belowB {B : Nat} {w w' : World} {g : Nat} {l h : Int} (hs : SV w g l h) (hb : Below B w w') (hB : g < B) : SV w' g l h :=
  ⟨(hb.cell (p := ⟨g, 0, none⟩) hB).trans hs.1, (hb.cell (p := ⟨g, 1, none⟩) hB).trans hs.2.1, (hb.frozen (p := ⟨g, 0, none⟩) hB).trans hs.2.2.1, (hb.frozen (p := ⟨g, 1, none⟩) hB).trans hs.2.2.2⟩
theorem SV.below {w w' : World} {g : Nat} {l h : Int} (hs : SV w g l h) (hb : Below w.heap.size w w') : SV w' g l h := hs.belowB hb hs.lt
theorem SV.made {w : World} {g : Nat} {l h : Int} {t : TypeId} (hg : g = w.heap.size) : SV (w.alloc (.cells #[.int .u64 l, .int .u64 h] t)) g l h := by
  subst hg
  refine ⟨?_, ?_, ?_, ?_⟩
  · rw [World.cell?_alloc_at (hn := rfl)]; rfl
  · rw [World.cell?_alloc_at (hn := rfl)]; rfl
  · unfold World.frozen?; rw [heap_alloc_new]; simp
  · unfold World.frozen?; rw [heap_alloc_new]; simp
theorem SV.alloc {w : World} {g : Nat} {l h : Int} (hs : SV w g l h) (o : Obj) : SV (w.alloc o) g l h := hs.below (below_alloc _ _)
theorem SV.drew {w : World} {g : Nat} {l h : Int} (hs : SV w g l h) : SV w.drew g l h := hs
/-- a pointer to a variable of two numbers, made since a block -/
def Fact.sv (base : Nat) (l h : Int) : Fact := ⟨fun v w => ∃ g, v = .pointer (some ⟨g, 0, none⟩) ∧ base ≤ g ∧ SV w g l h, fun _ _ _ hh hb => by obtain ⟨g, h1, h2, h3⟩ := hh; exact ⟨g, h1, h2, h3.below hb⟩⟩
def plainOf (x : Int) : Int := if x = 9223372036854775808 then 0 else x
end Go.Ulp
namespace Go.Proofs.Ytdoiobdomngccaa
open Go.RowKit Go.Ulp
set_option linter.unusedVariables false
set_option linter.unusedSimpArgs false
set_option maxHeartbeats 1000000
theorem spanCheck_any (l h : Int) (hl : U64 l) (hh : U64 h) (w : World) :
    Calls Try.prog 48 #[.agg #[.int .u64 l, .int .u64 h]] w fun e w' => e = .returned (.int .i64 (spanE l h)) ∧ Below w.heap.size w w' := by
  have AM := hid (fun w => atMost_any l h hl hh w)
  obtain ⟨E, hE⟩ : ∃ E, E = spanE l h := ⟨_, rfl⟩
  rw [← hE]
  unfold spanE spanB edgeB at hE
  by_cases c1 : l = 9223372036854775808
  · have b1 : (l == 9223372036854775808) = true := by simpa using c1
    have H := hid (show 3 = E by rw [hE]; simp [c1])
    clear hE c1
    go_enter Try.func48, Try.ntmps48
    go_wp2_with fail
    go_ret
    exact ⟨ret_int H.out, by (repeat' (first | (with_reducible exact Below.refl _ _) | (with_reducible assumption) | (with_reducible refine below_drewN ?_ _) | (with_reducible refine Below.drew ?_) | (with_reducible refine Below.alloc ?_ ?_ _) | (with_reducible refine Below.setCell ?_ ?_ _) | go_size))⟩
  · have b1 : (l == 9223372036854775808) = false := by simpa using c1
    by_cases c2 : h = 9223372036854775808
    · have b2 : (h == 9223372036854775808) = true := by simpa using c2
      have H := hid (show 3 = E by rw [hE]; simp [c2])
      clear hE c1 c2
      go_enter Try.func48, Try.ntmps48
      go_wp2_with fail
      go_ret
      exact ⟨ret_int H.out, by (repeat' (first | (with_reducible exact Below.refl _ _) | (with_reducible assumption) | (with_reducible refine below_drewN ?_ _) | (with_reducible refine Below.drew ?_) | (with_reducible refine Below.alloc ?_ ?_ _) | (with_reducible refine Below.setCell ?_ ?_ _) | go_size))⟩
    · have b2 : (h == 9223372036854775808) = false := by simpa using c2
      by_cases c3 : l = 9218868437227405312
      · have b3 : (l == 9218868437227405312) = true := by simpa using c3
        have H := hid (show 3 = E by rw [hE]; simp [c3])
        clear hE c1 c2 c3
        go_enter Try.func48, Try.ntmps48
        go_wp2_with fail
        go_ret
        exact ⟨ret_int H.out, by (repeat' (first | (with_reducible exact Below.refl _ _) | (with_reducible assumption) | (with_reducible refine below_drewN ?_ _) | (with_reducible refine Below.drew ?_) | (with_reducible refine Below.alloc ?_ ?_ _) | (with_reducible refine Below.setCell ?_ ?_ _) | go_size))⟩
      · have b3 : (l == 9218868437227405312) = false := by simpa using c3
        by_cases c4 : h = 18442240474082181120
        · have b4 : (h == 18442240474082181120) = true := by simpa using c4
          have H := hid (show 3 = E by rw [hE]; simp [c4])
          clear hE c1 c2 c3 c4
          go_enter Try.func48, Try.ntmps48
          go_wp2_with fail
          go_ret
          exact ⟨ret_int H.out, by (repeat' (first | (with_reducible exact Below.refl _ _) | (with_reducible assumption) | (with_reducible refine below_drewN ?_ _) | (with_reducible refine Below.drew ?_) | (with_reducible refine Below.alloc ?_ ?_ _) | (with_reducible refine Below.setCell ?_ ?_ _) | go_size))⟩
        · have b4 : (h == 18442240474082181120) = false := by simpa using c4
          have hE' : E = if leB l h = true then 0 else 3 := by rw [hE]; simp [c1, c2, c3, c4]
          cases hb : leB l h
          · have H := hid (show 3 = E by rw [hE', hb]; rfl)
            rw [hb] at AM
            clear hE hE' c1 c2 c3 c4 hb
            go_enter Try.func48, Try.ntmps48
            go_wp2_with (go_at_call 94; refine (AM.out _).mono ?_; rintro e w' ⟨rfl, rfl⟩)
            go_ret
            exact ⟨ret_int H.out, by (repeat' (first | (with_reducible exact Below.refl _ _) | (with_reducible assumption) | (with_reducible refine below_drewN ?_ _) | (with_reducible refine Below.drew ?_) | (with_reducible refine Below.alloc ?_ ?_ _) | (with_reducible refine Below.setCell ?_ ?_ _) | go_size))⟩
          · have H := hid (show 0 = E by rw [hE', hb]; rfl)
            rw [hb] at AM
            clear hE hE' c1 c2 c3 c4 hb
            go_enter Try.func48, Try.ntmps48
            go_wp2_with (go_at_call 94; refine (AM.out _).mono ?_; rintro e w' ⟨rfl, rfl⟩)
            go_ret
            exact ⟨ret_int H.out, by (repeat' (first | (with_reducible exact Below.refl _ _) | (with_reducible assumption) | (with_reducible refine below_drewN ?_ _) | (with_reducible refine Below.drew ?_) | (with_reducible refine Below.alloc ?_ ?_ _) | (with_reducible refine Below.setCell ?_ ?_ _) | go_size))⟩
def checkE (l h m i : Int) : Int := if spanB l h = true then spanE m i else 3
theorem spanE_true {l h : Int} (hs : spanB l h = true) : spanE l h = 0 := by unfold spanE; rw [if_pos hs]
theorem spanE_false {l h : Int} (hs : spanB l h = false) : spanE l h = 3 := by unfold spanE; rw [hs]; rfl
theorem spanCheck2_any (l h m i : Int) (hl : U64 l) (hh : U64 h) (hm : U64 m) (hi : U64 i) (w : World) :
    Calls Try.prog 93 #[.agg #[.int .u64 l, .int .u64 h], .agg #[.int .u64 m, .int .u64 i]] w fun e w' => e = .returned (.int .i64 (checkE l h m i)) ∧ Below w.heap.size w w' := by
  have A := hid (fun w => spanCheck_any l h hl hh w)
  have B := hid (fun w => spanCheck_any m i hm hi w)
  cases hs : spanB l h
  · have e1 := spanE_false hs
    have H := hid (show 3 = checkE l h m i by unfold checkE; rw [hs]; rfl)
    rw [e1] at A
    clear e1 hs
    go_enter Try.func93, Try.ntmps93
    go_wp2_with (go_at_call 48; ((with_reducible refine (A.out _).mono ?_)); rintro e w' ⟨rfl, hb1⟩)
    go_ret
    exact ⟨ret_int H.out, by (repeat' (first | (with_reducible assumption) | (with_reducible exact Below.refl _ _) | (with_reducible refine below_al ?_ _) | (with_reducible refine below_drewN ?_ _) | (with_reducible refine Below.drew ?_) | (with_reducible refine Below.alloc ?_ ?_ _) | (with_reducible refine Below.setCell ?_ ?_ _) | (refine below_trans ?_ (by assumption)) | go_size))⟩
  · have e1 := spanE_true hs
    have H := hid (show spanE m i = checkE l h m i by unfold checkE; rw [if_pos hs])
    rw [e1] at A
    clear e1 hs
    go_enter Try.func93, Try.ntmps93
    go_wp2_with (go_at_call 48; ((with_reducible refine (A.out _).mono ?_)); rintro e w1 ⟨rfl, hb1⟩; obtain ⟨hc1, hf1⟩ := bcell hb1)
    refine (B.out _).mono ?_
    rintro e w2 ⟨rfl, hb2⟩
    go_wp2_with fail
    go_ret
    exact ⟨ret_int H.out, by (repeat' (first | (with_reducible assumption) | (with_reducible exact Below.refl _ _) | (with_reducible refine below_al ?_ _) | (with_reducible refine below_drewN ?_ _) | (with_reducible refine Below.drew ?_) | (with_reducible refine Below.alloc ?_ ?_ _) | (with_reducible refine Below.setCell ?_ ?_ _) | (refine below_trans ?_ (by assumption)) | go_size))⟩
theorem spanHasIn_any (l h x : Int) (hl : U64 l) (hh : U64 h) (hx : U64 x) (w : World) :
    Calls Try.prog 102 #[.agg #[.int .u64 l, .int .u64 h], .int .u64 x] w fun e w' => e = .returned (.bool (leB l x && leB x h)) ∧ Below w.heap.size w w' := by
  have A := hid (fun w => atMost_any l x hl hx w)
  have B := hid (fun w => atMost_any x h hx hh w)
  cases hb : leB l x
  all_goals
    rw [hb] at A
    clear hb
    go_enter Try.func102, Try.ntmps102
    go_wp2_with (go_at_call 94; (first | ((with_reducible refine (A.out _).mono ?_)) | ((with_reducible refine (B.out _).mono ?_))); rintro e w' ⟨rfl, rfl⟩)
    go_ret
    exact ⟨rfl, by (repeat' (first | (with_reducible exact Below.refl _ _) | (with_reducible assumption) | (with_reducible refine below_drewN ?_ _) | (with_reducible refine Below.drew ?_) | (with_reducible refine Below.alloc ?_ ?_ _) | (with_reducible refine Below.setCell ?_ ?_ _) | go_size))⟩
theorem spanHas_any (l h x : Int) (hl : U64 l) (hh : U64 h) (hx : U64 x) (w : World) :
    Calls Try.prog 54 #[.agg #[.int .u64 l, .int .u64 h], .int .u64 x] w fun e w' => e = .returned (.bool (spanB l h && hasVal x && (leB l x && leB x h))) ∧ Below w.heap.size w w' := by
  have A := hid (fun w => spanCheck_any l h hl hh w)
  have V := hid (fun w => hasValue_any x hx.1 hx.2 w)
  have B := hid (fun w => spanHasIn_any l h x hl hh hx w)
  cases hs : spanB l h
  · have e1 := spanE_false hs
    rw [e1] at A
    clear e1 hs
    go_enter Try.func54, Try.ntmps54
    go_wp2_with (go_at_call 48; ((with_reducible refine (A.out _).mono ?_)); rintro e w1 ⟨rfl, hb1⟩; obtain ⟨hc1, hf1⟩ := bcell hb1)
    go_ret
    exact ⟨rfl, by (repeat' (first | (with_reducible assumption) | (with_reducible exact Below.refl _ _) | (with_reducible refine below_al ?_ _) | (with_reducible refine below_drewN ?_ _) | (with_reducible refine Below.drew ?_) | (with_reducible refine Below.alloc ?_ ?_ _) | (with_reducible refine Below.setCell ?_ ?_ _) | (refine below_trans ?_ (by assumption)) | go_size))⟩
  · have e1 := spanE_true hs
    rw [e1] at A
    clear e1 hs
    cases hv : hasVal x
    all_goals
      rw [hv] at V
      clear hv
      go_enter Try.func54, Try.ntmps54
      go_wp2_with (first | (go_at_call 48; ((with_reducible refine (A.out _).mono ?_)); rintro e w1 ⟨rfl, hb1⟩; obtain ⟨hc1, hf1⟩ := bcell hb1) | (go_at_call 76; refine (V.out _).mono ?_; rintro e w' ⟨rfl, rfl⟩) | (go_at_call 102; ((with_reducible refine (B.out _).mono ?_)); rintro e w2 ⟨rfl, hb2⟩))
      go_ret
      exact ⟨by first | rfl | simp, by (repeat' (first | (with_reducible assumption) | (with_reducible exact Below.refl _ _) | (with_reducible refine below_al ?_ _) | (with_reducible refine below_drewN ?_ _) | (with_reducible refine Below.drew ?_) | (with_reducible refine Below.alloc ?_ ?_ _) | (with_reducible refine Below.setCell ?_ ?_ _) | (refine below_trans ?_ (by assumption)) | go_size))⟩
def withinB (l h m i : Int) : Bool := decide (checkE l h m i = 0) && (leB m l && leB h i)
theorem spanWithin_any (l h m i : Int) (hl : U64 l) (hh : U64 h) (hm : U64 m) (hi : U64 i) (w : World) :
    Calls Try.prog 45 #[.agg #[.int .u64 l, .int .u64 h], .agg #[.int .u64 m, .int .u64 i]] w fun e w' => e = .returned (.tuple #[.bool (withinB l h m i), .int .i64 (checkE l h m i)]) ∧ Below w.heap.size w w' := by
  have A := hid (fun w => spanCheck2_any l h m i hl hh hm hi w)
  have B := hid (fun w => atMost_any m l hm hl w)
  have C := hid (fun w => atMost_any h i hh hi w)
  obtain ⟨E, hE⟩ : ∃ E, E = checkE l h m i := ⟨_, rfl⟩
  have hW : withinB l h m i = (decide (E = 0) && (leB m l && leB h i)) := by rw [hE]; rfl
  rw [hW, ← hE]
  rw [← hE] at A
  clear hE hW
  by_cases h0 : E = 0
  · subst h0
    cases hb : leB m l
    all_goals
      rw [hb] at B
      clear hb
      go_enter Try.func45, Try.ntmps45
      go_wp2_with (first | (go_at_call 93; ((with_reducible refine (A.out _).mono ?_)); rintro e w1 ⟨rfl, hb1⟩; obtain ⟨hc1, hf1⟩ := bcell hb1) | (go_at_call 94; (first | ((with_reducible refine (B.out _).mono ?_)) | ((with_reducible refine (C.out _).mono ?_))); rintro e w' ⟨rfl, rfl⟩))
      go_ret2
      exact ⟨by first | rfl | simp, by (repeat' (first | (with_reducible assumption) | (with_reducible exact Below.refl _ _) | (with_reducible refine below_al ?_ _) | (with_reducible refine below_drewN ?_ _) | (with_reducible refine Below.drew ?_) | (with_reducible refine Below.alloc ?_ ?_ _) | (with_reducible refine Below.setCell ?_ ?_ _) | (refine below_trans ?_ (by assumption)) | go_size))⟩
  · have hb0 : (E == 0) = false := by simpa using h0
    have hb1 : (E != 0) = true := by simpa using h0
    go_enter Try.func45, Try.ntmps45
    go_wp2_with (first | (go_at_call 93; ((with_reducible refine (A.out _).mono ?_)); rintro e w1 ⟨rfl, hb1⟩; obtain ⟨hc1, hf1⟩ := bcell hb1))
    go_ret2
    exact ⟨by simp [h0], by (repeat' (first | (with_reducible assumption) | (with_reducible exact Below.refl _ _) | (with_reducible refine below_al ?_ _) | (with_reducible refine below_drewN ?_ _) | (with_reducible refine Below.drew ?_) | (with_reducible refine Below.alloc ?_ ?_ _) | (with_reducible refine Below.setCell ?_ ?_ _) | (refine below_trans ?_ (by assumption)) | go_size))⟩
theorem plain_any (x : Int) (w : World) : Calls Try.prog 92 #[.int .u64 x] w fun e w' => e = .returned (.int .u64 (plainOf x)) ∧ w = w' := by
  by_cases c : x = 9223372036854775808
  · have b1 : (x == 9223372036854775808) = true := by simpa using c
    have H := hid (show 0 = plainOf x by unfold plainOf; rw [if_pos c])
    clear c
    go_enter Try.func92, Try.ntmps92
    go_wp2_with fail
    go_ret
    exact ⟨ret_int H.out, rfl⟩
  · have b1 : (x == 9223372036854775808) = false := by simpa using c
    have H := hid (show x = plainOf x by unfold plainOf; rw [if_neg c])
    go_enter Try.func92, Try.ntmps92
    go_wp2_with fail
    go_ret
    exact ⟨ret_int H.out, rfl⟩
theorem spanOf_any (x : Int) (hx : U64 x) (w : World) :
    Calls Try.prog 44 #[.int .u64 x] w fun e w' => e = .returned (.tuple #[.agg (if hasVal x = true then #[.int .u64 (plainOf x), .int .u64 (plainOf x)] else #[.int .u64 0, .int .u64 0]), .int .i64 (if hasVal x = true then 0 else 4)]) ∧ Below w.heap.size w w' := by
  have V := hid (fun w => hasValue_any x hx.1 hx.2 w)
  cases hv : hasVal x
  all_goals
    rw [hv] at V
    clear hv
    go_enter Try.func44, Try.ntmps44
    go_wp2_with (first | (go_at_call 76; refine (V.out _).mono ?_; rintro e w' ⟨rfl, rfl⟩) | (go_at_call 92; refine (plain_any _ _).mono ?_; rintro e w' ⟨rfl, rfl⟩))
    refine bodyPost_ret (by simp [results, Try.results44, go_sem]; try rfl) rfl ?_
    exact ⟨by first | rfl | simp, by (repeat' (first | (with_reducible exact Below.refl _ _) | (with_reducible assumption) | (with_reducible refine below_drewN ?_ _) | (with_reducible refine Below.drew ?_) | (with_reducible refine Below.alloc ?_ ?_ _) | (with_reducible refine Below.setCell ?_ ?_ _) | go_size))⟩
def hullV (l h m i : Int) : Array Value := if checkE l h m i = 0 then #[.int .u64 (minOf l m), .int .u64 (maxOf h i)] else #[.int .u64 0, .int .u64 0]
theorem checkE_facts {l h m i : Int} (h0 : checkE l h m i = 0) : spanB l h = true ∧ spanB m i = true := by
  unfold checkE at h0
  cases hs : spanB l h
  · rw [hs] at h0; simp at h0
  · rw [if_pos hs] at h0
    unfold spanE at h0
    cases ht : spanB m i
    · rw [ht] at h0; simp at h0
    · exact ⟨rfl, rfl⟩
theorem min_any (x y : Int) (hx : U64 x) (hy : U64 y) (nx : classOf x ≠ 5) (ny : classOf y ≠ 5) (zx : x ≠ 9223372036854775808) (zy : y ≠ 9223372036854775808) (w : World) :
    Calls Try.prog 95 #[.int .u64 x, .int .u64 y] w fun e w' => e = .returned (.int .u64 (minOf x y)) ∧ w = w' := by
  have L := hid (fun w => least_any x y 1 hx hy (.inl rfl) w)
  rw [leastOf_min x y hx hy nx ny zx zy] at L
  clear nx ny zx zy
  go_enter Try.func95, Try.ntmps95
  go_wp2_with (go_at_call 131; refine (L.out _).mono ?_; rintro e w' ⟨rfl, rfl⟩)
  go_ret
  exact ⟨rfl, rfl⟩
theorem max_any (x y : Int) (hx : U64 x) (hy : U64 y) (nx : classOf x ≠ 5) (ny : classOf y ≠ 5) (zx : x ≠ 9223372036854775808) (zy : y ≠ 9223372036854775808) (w : World) :
    Calls Try.prog 96 #[.int .u64 x, .int .u64 y] w fun e w' => e = .returned (.int .u64 (maxOf x y)) ∧ w = w' := by
  have L := hid (fun w => least_any x y (-1) hx hy (.inr rfl) w)
  rw [leastOf_max x y hx hy nx ny zx zy] at L
  clear nx ny zx zy
  go_enter Try.func96, Try.ntmps96
  go_wp2_with (go_at_call 131; refine (L.out _).mono ?_; rintro e w' ⟨rfl, rfl⟩)
  go_ret
  exact ⟨rfl, rfl⟩
theorem spanHull_any (l h m i : Int) (hl : U64 l) (hh : U64 h) (hm : U64 m) (hi : U64 i) (w : World) :
    Calls Try.prog 46 #[.agg #[.int .u64 l, .int .u64 h], .agg #[.int .u64 m, .int .u64 i]] w fun e w' => e = .returned (.tuple #[.agg (hullV l h m i), .int .i64 (checkE l h m i)]) ∧ Below w.heap.size w w' := by
  have A := hid (fun w => spanCheck2_any l h m i hl hh hm hi w)
  obtain ⟨E, hE⟩ : ∃ E, E = checkE l h m i := ⟨_, rfl⟩
  have hV : hullV l h m i = if E = 0 then #[.int .u64 (minOf l m), .int .u64 (maxOf h i)] else #[.int .u64 0, .int .u64 0] := by rw [hE]; rfl
  rw [hV, ← hE]
  rw [← hE] at A
  by_cases h0 : E = 0
  · subst h0
    obtain ⟨hs, ht⟩ := checkE_facts hE.symm
    obtain ⟨s1, s2, _, _, s3, s4, _⟩ := spanB_facts hs
    obtain ⟨t1, t2, _, _, t3, t4, _⟩ := spanB_facts ht
    have B := hid (fun w => min_any l m hl hm s3 t3 s1 t1 w)
    have C := hid (fun w => max_any h i hh hi s4 t4 s2 t2 w)
    clear hE hV hs ht s1 s2 s3 s4 t1 t2 t3 t4
    go_enter Try.func46, Try.ntmps46
    go_wp2_with fail
    have yA : SV (((w.alloc (.cells #[.int .u64 l, .int .u64 h] 61)).alloc (.cells #[.int .u64 m, .int .u64 i] 61)).alloc (.cells #[.int .u64 0, .int .u64 0] 61)) w.heap.size l h := ((SV.made rfl).alloc _).alloc _
    have yB : SV (((w.alloc (.cells #[.int .u64 l, .int .u64 h] 61)).alloc (.cells #[.int .u64 m, .int .u64 i] 61)).alloc (.cells #[.int .u64 0, .int .u64 0] 61)) (w.heap.size + 1) m i := (SV.made (by first | omega | (simp; done) | (simp; omega))).alloc _
    have yC : SV (((w.alloc (.cells #[.int .u64 l, .int .u64 h] 61)).alloc (.cells #[.int .u64 m, .int .u64 i] 61)).alloc (.cells #[.int .u64 0, .int .u64 0] 61)) (w.heap.size + 1 + 1) 0 0 := SV.made (by first | omega | (simp; done) | (simp; omega))
    refine (A.out _).mono ?_
    rintro e w1 ⟨rfl, hb1⟩
    have yb : Below w.heap.size w w1 := by (repeat' (first | (with_reducible assumption) | (with_reducible exact Below.refl _ _) | (with_reducible refine below_al ?_ _) | (with_reducible refine below_drewN ?_ _) | (with_reducible refine Below.drew ?_) | (with_reducible refine Below.alloc ?_ ?_ _) | (with_reducible refine Below.setCell ?_ ?_ _) | (refine below_trans ?_ (by assumption)) | go_size))
    have zA := yA.below hb1
    have zB := yB.below hb1
    have zC := yC.below hb1
    clear yA yB yC hb1 A
    go_wp2_with fail
    refine wp_region_grow 11 [14, 15, 16, 17, 18, 19, 20, 21, 22, 23, 24] [Fact.is (.pointer (some ⟨w.heap.size, 0, none⟩)), Fact.is (.int .u64 l), Fact.is (.pointer (some ⟨w.heap.size + 1, 0, none⟩)), Fact.is (.int .u64 m), Fact.is (.int .u64 (minOf l m)), Fact.is (.pointer (some ⟨w.heap.size, 1, none⟩)), Fact.is (.int .u64 h), Fact.is (.pointer (some ⟨w.heap.size + 1, 1, none⟩)), Fact.is (.int .u64 i), Fact.is (.int .u64 (maxOf h i)), Fact.is (.agg #[.int .u64 (minOf l m), .int .u64 (maxOf h i)])] (by kernel_rfl) (by kernel_rfl) ⟨?o0, ?o1, ?o2, ?o3, ?o4, ?o5, ?o6, ?o7, ?o8, ?o9, ?o10, trivial⟩ ?after
    case o0 => (refine StepOK.plain rfl ?_; intro ρ w1 R hρ hb hp hR; have e2 : ρ (.tmp 2) = .pointer (some ⟨w.heap.size, 0, none⟩) := hρ.tmp 2 rfl; have hcon := hρ.con; have hfn := hρ.fn; clear hρ hp; unfold OpRun; go_simp; exact hR _ _ (Below.refl _ _) rfl)
    case o1 => (refine StepOK.plain rfl ?_; intro ρ w1 R hρ hb hp hR; have e14 : ρ (.tmp 14) = _ := hp 0 14 rfl rfl; obtain ⟨j0, j1, j2, j3⟩ := zA.below hb; have hcon := hρ.con; have hfn := hρ.fn; clear hρ hp; unfold OpRun; go_simp; exact hR _ _ (Below.refl _ _) rfl)
    case o2 => (refine StepOK.plain rfl ?_; intro ρ w1 R hρ hb hp hR; have e3 : ρ (.tmp 3) = .pointer (some ⟨w.heap.size + 1, 0, none⟩) := hρ.tmp 3 rfl; have hcon := hρ.con; have hfn := hρ.fn; clear hρ hp; unfold OpRun; go_simp; exact hR _ _ (Below.refl _ _) rfl)
    case o3 => (refine StepOK.plain rfl ?_; intro ρ w1 R hρ hb hp hR; have e16 : ρ (.tmp 16) = _ := hp 2 16 rfl rfl; obtain ⟨j0, j1, j2, j3⟩ := zB.below hb; have hcon := hρ.con; have hfn := hρ.fn; clear hρ hp; unfold OpRun; go_simp; exact hR _ _ (Below.refl _ _) rfl)
    case o4 => (refine StepOK.plain rfl ?_; intro ρ w1 R hρ hb hp hR; have e15 : ρ (.tmp 15) = _ := hp 1 15 rfl rfl; have e17 : ρ (.tmp 17) = _ := hp 3 17 rfl rfl; have hcon := hρ.con; have hfn := hρ.fn; clear hρ hp; unfold OpRun; go_simp; (refine (B.out _).mono ?_; rintro e wn ⟨rfl, rfl⟩; exact ⟨_, rfl, hR _ _ (Below.refl _ _) rfl⟩))
    case o5 => (refine StepOK.plain rfl ?_; intro ρ w1 R hρ hb hp hR; have e2 : ρ (.tmp 2) = .pointer (some ⟨w.heap.size, 0, none⟩) := hρ.tmp 2 rfl; have hcon := hρ.con; have hfn := hρ.fn; clear hρ hp; unfold OpRun; go_simp; exact hR _ _ (Below.refl _ _) rfl)
    case o6 => (refine StepOK.plain rfl ?_; intro ρ w1 R hρ hb hp hR; have e19 : ρ (.tmp 19) = _ := hp 5 19 rfl rfl; obtain ⟨j0, j1, j2, j3⟩ := zA.below hb; have hcon := hρ.con; have hfn := hρ.fn; clear hρ hp; unfold OpRun; go_simp; exact hR _ _ (Below.refl _ _) rfl)
    case o7 => (refine StepOK.plain rfl ?_; intro ρ w1 R hρ hb hp hR; have e3 : ρ (.tmp 3) = .pointer (some ⟨w.heap.size + 1, 0, none⟩) := hρ.tmp 3 rfl; have hcon := hρ.con; have hfn := hρ.fn; clear hρ hp; unfold OpRun; go_simp; exact hR _ _ (Below.refl _ _) rfl)
    case o8 => (refine StepOK.plain rfl ?_; intro ρ w1 R hρ hb hp hR; have e21 : ρ (.tmp 21) = _ := hp 7 21 rfl rfl; obtain ⟨j0, j1, j2, j3⟩ := zB.below hb; have hcon := hρ.con; have hfn := hρ.fn; clear hρ hp; unfold OpRun; go_simp; exact hR _ _ (Below.refl _ _) rfl)
    case o9 => (refine StepOK.plain rfl ?_; intro ρ w1 R hρ hb hp hR; have e20 : ρ (.tmp 20) = _ := hp 6 20 rfl rfl; have e22 : ρ (.tmp 22) = _ := hp 8 22 rfl rfl; have hcon := hρ.con; have hfn := hρ.fn; clear hρ hp; unfold OpRun; go_simp; (refine (C.out _).mono ?_; rintro e wn ⟨rfl, rfl⟩; exact ⟨_, rfl, hR _ _ (Below.refl _ _) rfl⟩))
    case o10 => (refine StepOK.plain rfl ?_; intro ρ w1 R hρ hb hp hR; have e18 : ρ (.tmp 18) = _ := hp 4 18 rfl rfl; have e23 : ρ (.tmp 23) = _ := hp 9 23 rfl rfl; have hcon := hρ.con; have hfn := hρ.fn; clear hρ hp; unfold OpRun; go_simp; exact hR _ _ (Below.refl _ _) rfl)
    case after =>
      intro u wn hb hf
      have e24 : u 24 = _ := hf 10 24 (by omega) rfl
      clear hf
      simp only [putAll, Act.put, List.setIfInBounds_toArray, List.set_cons_zero, List.set_cons_succ]
      rw [e24]
      obtain ⟨k0, k1, f0, f1⟩ := zC.below hb
      have yb2 : Below w.heap.size w wn := below_trans yb hb
      clear zA zB zC hb yb B C
      go_wp2_with fail
      refine bodyPost_ret (by simp [results, Try.results46, go_sem, k0, k1]; try rfl) rfl ?_
      exact ⟨by first | rfl | simp, by (repeat' (first | (with_reducible assumption) | (with_reducible exact Below.refl _ _) | (with_reducible refine below_al ?_ _) | (with_reducible refine below_drewN ?_ _) | (with_reducible refine Below.drew ?_) | (with_reducible refine Below.alloc ?_ ?_ _) | (with_reducible refine Below.setCell ?_ ?_ _) | (refine below_trans ?_ (by assumption)) | go_size))⟩
  · have hb0 : (E == 0) = false := by simpa using h0
    have hb1 : (E != 0) = true := by simpa using h0
    clear hE hV
    go_enter Try.func46, Try.ntmps46
    go_wp2_with (first | (go_at_call 93; ((with_reducible refine (A.out _).mono ?_)); rintro e w1 ⟨rfl, hb1⟩; obtain ⟨hc1, hf1⟩ := bcell hb1))
    refine bodyPost_ret (by simp [results, Try.results46, go_sem, hc1, hf1]; try rfl) rfl ?_
    exact ⟨by simp [h0], by (repeat' (first | (with_reducible assumption) | (with_reducible exact Below.refl _ _) | (with_reducible refine below_al ?_ _) | (with_reducible refine below_drewN ?_ _) | (with_reducible refine Below.drew ?_) | (with_reducible refine Below.alloc ?_ ?_ _) | (with_reducible refine Below.setCell ?_ ?_ _) | (refine below_trans ?_ (by assumption)) | go_size))⟩
def meetV (l h m i : Int) : Array Value := if checkE l h m i = 0 ∧ leB (maxOf l m) (minOf h i) = true then #[.int .u64 (maxOf l m), .int .u64 (minOf h i)] else #[.int .u64 0, .int .u64 0]
def meetE (l h m i : Int) : Int := if checkE l h m i = 0 then (if leB (maxOf l m) (minOf h i) = true then 0 else 4) else checkE l h m i
theorem spanMeet_any (l h m i : Int) (hl : U64 l) (hh : U64 h) (hm : U64 m) (hi : U64 i) (w : World) :
    Calls Try.prog 47 #[.agg #[.int .u64 l, .int .u64 h], .agg #[.int .u64 m, .int .u64 i]] w fun e w' => e = .returned (.tuple #[.agg (meetV l h m i), .int .i64 (meetE l h m i)]) ∧ Below w.heap.size w w' := by
  have A := hid (fun w => spanCheck2_any l h m i hl hh hm hi w)
  have D := hid (fun w => atMost_any (maxOf l m) (minOf h i) (by unfold maxOf; split <;> assumption) (by unfold minOf; split <;> assumption) w)
  obtain ⟨E, hE⟩ : ∃ E, E = checkE l h m i := ⟨_, rfl⟩
  have hV : meetV l h m i = if E = 0 ∧ leB (maxOf l m) (minOf h i) = true then #[.int .u64 (maxOf l m), .int .u64 (minOf h i)] else #[.int .u64 0, .int .u64 0] := by rw [hE]; rfl
  have hM : meetE l h m i = if E = 0 then (if leB (maxOf l m) (minOf h i) = true then 0 else 4) else E := by rw [hE]; rfl
  rw [hV, hM]
  rw [← hE] at A
  clear hV hM
  by_cases h0 : E = 0
  · subst h0
    obtain ⟨hs, ht⟩ := checkE_facts hE.symm
    obtain ⟨s1, s2, _, _, s3, s4, _⟩ := spanB_facts hs
    obtain ⟨t1, t2, _, _, t3, t4, _⟩ := spanB_facts ht
    have B := hid (fun w => max_any l m hl hm s3 t3 s1 t1 w)
    have C := hid (fun w => min_any h i hh hi s4 t4 s2 t2 w)
    clear hE hs ht s1 s2 s3 s4 t1 t2 t3 t4
    cases hb : leB (maxOf l m) (minOf h i)
    all_goals
      rw [hb] at D
      clear hb
      go_enter Try.func47, Try.ntmps47
      go_wp2_with fail
      have yA : SV (((w.alloc (.cells #[.int .u64 l, .int .u64 h] 61)).alloc (.cells #[.int .u64 m, .int .u64 i] 61)).alloc (.cells #[.int .u64 0, .int .u64 0] 61)) w.heap.size l h := ((SV.made rfl).alloc _).alloc _
      have yB : SV (((w.alloc (.cells #[.int .u64 l, .int .u64 h] 61)).alloc (.cells #[.int .u64 m, .int .u64 i] 61)).alloc (.cells #[.int .u64 0, .int .u64 0] 61)) (w.heap.size + 1) m i := (SV.made (by first | omega | (simp; done) | (simp; omega))).alloc _
      have yC : SV (((w.alloc (.cells #[.int .u64 l, .int .u64 h] 61)).alloc (.cells #[.int .u64 m, .int .u64 i] 61)).alloc (.cells #[.int .u64 0, .int .u64 0] 61)) (w.heap.size + 1 + 1) 0 0 := SV.made (by first | omega | (simp; done) | (simp; omega))
      refine (A.out _).mono ?_
      rintro e w1 ⟨rfl, hb1⟩
      have yb : Below w.heap.size w w1 := by (repeat' (first | (with_reducible assumption) | (with_reducible exact Below.refl _ _) | (with_reducible refine below_al ?_ _) | (with_reducible refine below_drewN ?_ _) | (with_reducible refine Below.drew ?_) | (with_reducible refine Below.alloc ?_ ?_ _) | (with_reducible refine Below.setCell ?_ ?_ _) | (refine below_trans ?_ (by assumption)) | go_size))
      have zA := yA.below hb1
      have zB := yB.below hb1
      have zC := yC.below hb1
      clear yA yB yC hb1 A
      go_wp2_with fail
      refine wp_region_grow 12 [15, 16, 17, 18, 19, 20, 21, 22, 23, 24, 25, 7] [Fact.is (.pointer (some ⟨w.heap.size, 0, none⟩)), Fact.is (.int .u64 l), Fact.is (.pointer (some ⟨w.heap.size + 1, 0, none⟩)), Fact.is (.int .u64 m), Fact.is (.int .u64 (maxOf l m)), Fact.is (.pointer (some ⟨w.heap.size, 1, none⟩)), Fact.is (.int .u64 h), Fact.is (.pointer (some ⟨w.heap.size + 1, 1, none⟩)), Fact.is (.int .u64 i), Fact.is (.int .u64 (minOf h i)), Fact.is (.agg #[.int .u64 (maxOf l m), .int .u64 (minOf h i)]), Fact.sv w1.heap.size 0 0] (by kernel_rfl) (by kernel_rfl) ⟨?o0, ?o1, ?o2, ?o3, ?o4, ?o5, ?o6, ?o7, ?o8, ?o9, ?o10, ?o11, trivial⟩ ?after
      case o0 => (refine StepOK.plain rfl ?_; intro ρ w1 R hρ hb hp hR; have e2 : ρ (.tmp 2) = .pointer (some ⟨w.heap.size, 0, none⟩) := hρ.tmp 2 rfl; have hcon := hρ.con; have hfn := hρ.fn; clear hρ hp; unfold OpRun; go_simp; exact hR _ _ (Below.refl _ _) rfl)
      case o1 => (refine StepOK.plain rfl ?_; intro ρ w1 R hρ hb hp hR; have e15 : ρ (.tmp 15) = _ := hp 0 15 rfl rfl; obtain ⟨j0, j1, j2, j3⟩ := zA.below hb; have hcon := hρ.con; have hfn := hρ.fn; clear hρ hp; unfold OpRun; go_simp; exact hR _ _ (Below.refl _ _) rfl)
      case o2 => (refine StepOK.plain rfl ?_; intro ρ w1 R hρ hb hp hR; have e3 : ρ (.tmp 3) = .pointer (some ⟨w.heap.size + 1, 0, none⟩) := hρ.tmp 3 rfl; have hcon := hρ.con; have hfn := hρ.fn; clear hρ hp; unfold OpRun; go_simp; exact hR _ _ (Below.refl _ _) rfl)
      case o3 => (refine StepOK.plain rfl ?_; intro ρ w1 R hρ hb hp hR; have e17 : ρ (.tmp 17) = _ := hp 2 17 rfl rfl; obtain ⟨j0, j1, j2, j3⟩ := zB.below hb; have hcon := hρ.con; have hfn := hρ.fn; clear hρ hp; unfold OpRun; go_simp; exact hR _ _ (Below.refl _ _) rfl)
      case o4 => (refine StepOK.plain rfl ?_; intro ρ w1 R hρ hb hp hR; have e16 : ρ (.tmp 16) = _ := hp 1 16 rfl rfl; have e18 : ρ (.tmp 18) = _ := hp 3 18 rfl rfl; have hcon := hρ.con; have hfn := hρ.fn; clear hρ hp; unfold OpRun; go_simp; (refine (B.out _).mono ?_; rintro e wn ⟨rfl, rfl⟩; exact ⟨_, rfl, hR _ _ (Below.refl _ _) rfl⟩))
      case o5 => (refine StepOK.plain rfl ?_; intro ρ w1 R hρ hb hp hR; have e2 : ρ (.tmp 2) = .pointer (some ⟨w.heap.size, 0, none⟩) := hρ.tmp 2 rfl; have hcon := hρ.con; have hfn := hρ.fn; clear hρ hp; unfold OpRun; go_simp; exact hR _ _ (Below.refl _ _) rfl)
      case o6 => (refine StepOK.plain rfl ?_; intro ρ w1 R hρ hb hp hR; have e20 : ρ (.tmp 20) = _ := hp 5 20 rfl rfl; obtain ⟨j0, j1, j2, j3⟩ := zA.below hb; have hcon := hρ.con; have hfn := hρ.fn; clear hρ hp; unfold OpRun; go_simp; exact hR _ _ (Below.refl _ _) rfl)
      case o7 => (refine StepOK.plain rfl ?_; intro ρ w1 R hρ hb hp hR; have e3 : ρ (.tmp 3) = .pointer (some ⟨w.heap.size + 1, 0, none⟩) := hρ.tmp 3 rfl; have hcon := hρ.con; have hfn := hρ.fn; clear hρ hp; unfold OpRun; go_simp; exact hR _ _ (Below.refl _ _) rfl)
      case o8 => (refine StepOK.plain rfl ?_; intro ρ w1 R hρ hb hp hR; have e22 : ρ (.tmp 22) = _ := hp 7 22 rfl rfl; obtain ⟨j0, j1, j2, j3⟩ := zB.below hb; have hcon := hρ.con; have hfn := hρ.fn; clear hρ hp; unfold OpRun; go_simp; exact hR _ _ (Below.refl _ _) rfl)
      case o9 => (refine StepOK.plain rfl ?_; intro ρ w1 R hρ hb hp hR; have e21 : ρ (.tmp 21) = _ := hp 6 21 rfl rfl; have e23 : ρ (.tmp 23) = _ := hp 8 23 rfl rfl; have hcon := hρ.con; have hfn := hρ.fn; clear hρ hp; unfold OpRun; go_simp; (refine (C.out _).mono ?_; rintro e wn ⟨rfl, rfl⟩; exact ⟨_, rfl, hR _ _ (Below.refl _ _) rfl⟩))
      case o10 => (refine StepOK.plain rfl ?_; intro ρ w1 R hρ hb hp hR; have e19 : ρ (.tmp 19) = _ := hp 4 19 rfl rfl; have e24 : ρ (.tmp 24) = _ := hp 9 24 rfl rfl; have hcon := hρ.con; have hfn := hρ.fn; clear hρ hp; unfold OpRun; go_simp; exact hR _ _ (Below.refl _ _) rfl)
      case o11 => (refine StepOK.plain rfl ?_; intro ρ w1 R hρ hb hp hR; have hcon := hρ.con; have hfn := hρ.fn; clear hρ hp; unfold OpRun; go_simp; exact hR _ _ (below_alloc _ _) ⟨_, rfl, hb.size, SV.made rfl⟩)
      case after =>
        intro u wn hb hf
        have e25 : u 25 = _ := hf 10 25 (by omega) rfl
        have f7 := hf 11 7 (by omega) rfl
        clear hf
        simp only [putAll, Act.put, List.setIfInBounds_toArray, List.set_cons_zero, List.set_cons_succ]
        rw [e25]
        obtain ⟨g, e7, hg, zG⟩ := f7
        have zC1 := zC.lt
        have zC2 := zC.below hb
        have hlt := zC2.lt
        have hlg := zG.lt
        have hne : g ≠ w.heap.size + 1 + 1 := by omega
        obtain ⟨k0, k1, f0, f1⟩ := zC2
        obtain ⟨j0, j1, j2, j3⟩ := zG
        have yb2 : Below w.heap.size w wn := below_trans yb hb
        have hgw : w.heap.size ≤ g := by omega
        clear zA zB zC hb yb B C
        rw [e7]
        go_wp2_with (go_at_call 94; refine (D.out _).mono ?_; rintro e w' ⟨rfl, rfl⟩)
        refine bodyPost_ret (by simp [results, Try.results47, go_sem, k0, k1, hne, Ne.symm hne]; try rfl) rfl ?_
        exact ⟨by first | rfl | simp, by (repeat' (first | (with_reducible assumption) | (with_reducible exact Below.refl _ _) | (with_reducible refine below_al ?_ _) | (with_reducible refine below_drewN ?_ _) | (with_reducible refine Below.drew ?_) | (with_reducible refine Below.alloc ?_ ?_ _) | (with_reducible refine Below.setCell ?_ ?_ _) | (refine below_trans ?_ (by assumption)) | go_size))⟩
  · have hb0 : (E == 0) = false := by simpa using h0
    have hb1 : (E != 0) = true := by simpa using h0
    clear hE
    go_enter Try.func47, Try.ntmps47
    go_wp2_with (first | (go_at_call 93; ((with_reducible refine (A.out _).mono ?_)); rintro e w1 ⟨rfl, hb1⟩; obtain ⟨hc1, hf1⟩ := bcell hb1))
    refine bodyPost_ret (by simp [results, Try.results47, go_sem, hc1, hf1]; try rfl) rfl ?_
    exact ⟨by simp [h0], by (repeat' (first | (with_reducible assumption) | (with_reducible exact Below.refl _ _) | (with_reducible refine below_al ?_ _) | (with_reducible refine below_drewN ?_ _) | (with_reducible refine Below.drew ?_) | (with_reducible refine Below.alloc ?_ ?_ _) | (with_reducible refine Below.setCell ?_ ?_ _) | (refine below_trans ?_ (by assumption)) | go_size))⟩
end Go.Proofs.Ytdoiobdomngccaa
