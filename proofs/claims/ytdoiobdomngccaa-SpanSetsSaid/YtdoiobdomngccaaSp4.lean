/- The reference's check of spans. -/
import Derived.Test.YtdoiobdomngccaaSp3
import Derived.Test.YtdoiobdomngccaaRegF
set_option linter.unusedVariables false
set_option linter.unusedSimpArgs false
namespace Go.Ulp
open Go.RowKit
def SL (w : World) (g : Nat) (L : List (Int × Int)) : Prop := ∀ i, i < L.length → w.cell? ⟨g, i * 2, none⟩ = some (.int .u64 (L.getD i (0, 0)).1) ∧ w.cell? ⟨g, i * 2 + 1, none⟩ = some (.int .u64 (L.getD i (0, 0)).2)
theorem SL.below {w w' : World} {g : Nat} {L : List (Int × Int)} (h : SL w g L) (hb : Below w.heap.size w w') : SL w' g L := fun i hi =>
  ⟨(hb.cell (p := ⟨g, i * 2, none⟩) (World.block_lt_of_cell? w _ (h i hi).1)).trans (h i hi).1, (hb.cell (p := ⟨g, i * 2 + 1, none⟩) (World.block_lt_of_cell? w _ (h i hi).2)).trans (h i hi).2⟩
def spansE (L : List (Int × Int)) : Int := if L.all (fun p => spanB p.1 p.2) = true then 0 else 3
theorem spansE_bad {L : List (Int × Int)} {k : Nat} (hk : k < L.length) (h : spanB (L.getD k (0, 0)).1 (L.getD k (0, 0)).2 = false) : 3 = spansE L := by
  unfold spansE
  rw [if_neg]
  intro ha
  have := List.all_eq_true.1 ha (L.getD k (0, 0)) (by simp [List.getD, List.getElem?_eq_getElem hk])
  rw [h] at this; cases this
theorem spansE_good {L : List (Int × Int)} (h : ∀ j, j < L.length → spanB (L.getD j (0, 0)).1 (L.getD j (0, 0)).2 = true) : 0 = spansE L := by
  unfold spansE
  rw [if_pos]
  rw [List.all_eq_true]
  intro p hp
  obtain ⟨j, hj, rfl⟩ := List.getElem_of_mem hp
  have := h j hj
  simpa [List.getD, List.getElem?_eq_getElem hj] using this
/-- a pointer to an end of a span, made since a block -/
def EV (ti te : TypeId) (w : World) (g : Nat) (x : Int) : Prop :=
  ∃ n ao l c t way, w.cell? ⟨g, 0, none⟩ = some (.bool n) ∧ w.cell? ⟨g, 1, none⟩ = some (.slice ao l c) ∧ w.cell? ⟨g, 2, none⟩ = some (.int .i64 t) ∧ w.cell? ⟨g, 3, none⟩ = some (.int .i64 way) ∧ ED ti w x (.agg #[.bool n, .slice ao l c, .int .i64 t, .int .i64 way])
/-- a variable of four cells that may be written -/
def E0 (te : TypeId) (w : World) (g : Nat) : Prop :=
  ∃ c : Array Value, c.size = 4 ∧ (∀ i (h : i < c.size), w.cell? ⟨g, i, none⟩ = some c[i] ∧ w.frozen? ⟨g, i, none⟩ = false) ∧ ElemIs w g te
theorem E0.made {w : World} {te : TypeId} {c : Array Value} (hc : c.size = 4) : E0 te (w.alloc (.cells c te)) w.heap.size := by
  refine ⟨c, hc, fun i hi => ⟨?_, ?_⟩, ElemIs.made _ _ _⟩
  · rw [World.cell?_alloc_at (hn := rfl)]; exact Array.getElem?_eq_getElem hi
  · unfold World.frozen?; rw [heap_alloc_new]; simp
theorem E0.lt {w : World} {te : TypeId} {g : Nat} (h : E0 te w g) : g < w.heap.size := by obtain ⟨c, hc, h1, _⟩ := h; exact World.block_lt_of_cell? w _ (h1 0 (by omega)).1
theorem E0.below {w w' : World} {te : TypeId} {g : Nat} (h : E0 te w g) (hb : Below w.heap.size w w') : E0 te w' g := by
  have hl := h.lt
  obtain ⟨c, hc, h1, h2⟩ := h
  exact ⟨c, hc, fun i hi => ⟨(hb.cell (p := ⟨g, i, none⟩) hl).trans (h1 i hi).1, (hb.frozen (p := ⟨g, i, none⟩) hl).trans (h1 i hi).2⟩, h2.below hb⟩
theorem E0.cells {w : World} {te : TypeId} {g : Nat} (h : E0 te w g) : ∃ c0 c1 c2 c3, w.cell? ⟨g, 0, none⟩ = some c0 ∧ w.cell? ⟨g, 1, none⟩ = some c1 ∧ w.cell? ⟨g, 2, none⟩ = some c2 ∧ w.cell? ⟨g, 3, none⟩ = some c3 ∧ w.frozen? ⟨g, 0, none⟩ = false ∧ w.frozen? ⟨g, 1, none⟩ = false ∧ w.frozen? ⟨g, 2, none⟩ = false ∧ w.frozen? ⟨g, 3, none⟩ = false ∧ ElemIs w g te := by
  obtain ⟨c, hc, h1, h2⟩ := h
  exact ⟨_, _, _, _, (h1 0 (by omega)).1, (h1 1 (by omega)).1, (h1 2 (by omega)).1, (h1 3 (by omega)).1, (h1 0 (by omega)).2, (h1 1 (by omega)).2, (h1 2 (by omega)).2, (h1 3 (by omega)).2, h2⟩
def Fact.e0 (base : Nat) (te : TypeId) : Fact := ⟨fun v w => ∃ g, v = .pointer (some ⟨g, 0, none⟩) ∧ base ≤ g ∧ E0 te w g, fun _ _ _ h hb => by obtain ⟨g, h1, h2, h3⟩ := h; exact ⟨g, h1, h2, h3.below hb⟩⟩
theorem QD.setCell {t e : TypeId} {w : World} {D : Dy} {A T : Nat} {v : Value} (h : QD t w D A T v) {g : Nat} (hs : ElemIs w g e) (hne : e ≠ t) (o : Nat) (u : Value) : QD t (w.setCell ⟨g, o, none⟩ u) D A T v := by
  obtain ⟨x, n, ao, cap, h1, h2, h3⟩ := h
  exact ⟨x, n, ao, cap, h1, h2.setCell hs hne o u, h3⟩
theorem ED.setCell {t e : TypeId} {w : World} {x : Int} {v : Value} (h : ED t w x v) {g : Nat} (hs : ElemIs w g e) (hne : e ≠ t) (o : Nat) (u : Value) : ED t (w.setCell ⟨g, o, none⟩ u) x v := by
  obtain ⟨n, ao, l, c, t', way, h1, h2⟩ := h
  refine ⟨n, ao, l, c, t', way, h1, ?_⟩
  rcases h2 with ⟨h2, h3, h4⟩ | h2
  · exact .inl ⟨h2, h3, h4.setCell hs hne o u⟩
  · exact .inr h2
theorem ED.set4 {t e : TypeId} {w : World} {x : Int} {v : Value} (h : ED t w x v) {g : Nat} (hs : ElemIs w g e) (hne : e ≠ t) (u0 u1 u2 u3 : Value) : ED t ((((w.setCell ⟨g, 0, none⟩ u0).setCell ⟨g, 1, none⟩ u1).setCell ⟨g, 2, none⟩ u2).setCell ⟨g, 3, none⟩ u3) x v :=
  (((h.setCell hs hne _ _).setCell (hs.setCell _ _) hne _ _).setCell ((hs.setCell _ _).setCell _ _) hne _ _).setCell (((hs.setCell _ _).setCell _ _).setCell _ _) hne _ _
theorem ElemIs.set4 {w : World} {b : Nat} {t : TypeId} (h : ElemIs w b t) {g : Nat} (u0 u1 u2 u3 : Value) : ElemIs ((((w.setCell ⟨g, 0, none⟩ u0).setCell ⟨g, 1, none⟩ u1).setCell ⟨g, 2, none⟩ u2).setCell ⟨g, 3, none⟩ u3) b t :=
  (((h.setCell _ _).setCell _ _).setCell _ _).setCell _ _
theorem _root_.Go.RowKit.Below.set4 {B : Nat} {w w' : World} (h : Below B w w') {g : Nat} (hg : B ≤ g) (u0 u1 u2 u3 : Value) : Below B w ((((w'.setCell ⟨g, 0, none⟩ u0).setCell ⟨g, 1, none⟩ u1).setCell ⟨g, 2, none⟩ u2).setCell ⟨g, 3, none⟩ u3) :=
  (((h.setCell hg _).setCell hg _).setCell hg _).setCell hg _
theorem wp_worldS {P : Program} {c : Code} {Q : Exit → Act → World → Prop} {a : Act} {w0 : World} (F : World → Prop) (hF : F w0) (h : ∀ w, F w → Code.wp P c Q a w) : Code.wp P c Q a w0 := h w0 hF
theorem way_one {x : Int} (h0 : 0 ≤ x) (h1 : x < 18446744073709551616) (hn : nanB x = false) (hv : valB x = false) : (negB x = false → x = 9218868437227405312) ∧ (negB x = true → x = 18442240474082181120) := by
  have a := class_nan x h0 h1
  have b := class_val x h0 h1
  have c := class_bd x
  unfold nanB at hn; unfold valB at hv
  have hn' : classOf x ≠ 5 := by simpa using hn
  have hv' : ¬ classOf x < 4 := by simpa using hv
  unfold absOf at a b
  unfold negB
  constructor
  · intro h; have h' : ¬ 9223372036854775808 ≤ x := by simpa using h
    omega
  · intro h; have h' : 9223372036854775808 ≤ x := by simpa using h
    omega
theorem span_flags {l h : Int} (ul : U64 l) (uh : U64 h) {b : Bool} (hb : b = (nanB l || nanB h || (zeroB l && negB l) || (zeroB h && negB h))) :
    (b = true → spanB l h = false) ∧ (b = false → nanB l = false ∧ nanB h = false ∧ l ≠ 9223372036854775808 ∧ h ≠ 9223372036854775808) := by
  rw [minus_zero l ul.1 ul.2, minus_zero h uh.1 uh.2] at hb
  subst hb
  constructor
  · intro hb
    simp only [Bool.or_eq_true, decide_eq_true_eq, nanB] at hb
    unfold spanB edgeB leB
    rcases hb with ((hb | hb) | hb) | hb
    · simp [hb]
    · simp [hb]
    · simp [hb]
    · simp [hb]
  · intro hb
    simp only [Bool.or_eq_false_iff, decide_eq_false_iff_not] at hb
    exact ⟨hb.1.1.1, hb.1.1.2, hb.1.2, hb.2⟩
theorem span_end {l h : Int} (nl : nanB l = false) (nh : nanB h = false) (zl : l ≠ 9223372036854775808) (zh : h ≠ 9223372036854775808) (il : l ≠ 9218868437227405312) (ih : h ≠ 18442240474082181120) :
    spanB l h = decide (cmpI (rankOf l) (rankOf h) ≤ 0) := by
  unfold nanB at nl nh
  have nl' : classOf l ≠ 5 := by simpa using nl
  have nh' : classOf h ≠ 5 := by simpa using nh
  unfold spanB edgeB leB
  rw [Bool.eq_iff_iff]
  simp [nl', nh', zl, zh, il, ih, cmpI_le]
end Go.Ulp
namespace Go.Proofs.Ytdoiobdomngccaa
open Go.RowKit Go.Ulp
set_option linter.unusedVariables false
set_option linter.unusedSimpArgs false
set_option maxHeartbeats 2000000
set_option maxRecDepth 100000
theorem spansRight_any (L : List (Int × Int)) (hL : ∀ j, j < L.length → U64 (L.getD j (0, 0)).1 ∧ U64 (L.getD j (0, 0)).2) (hlen : L.length ≤ 1000) (g cap : Nat) (w : World) (hcl : SL w g L) :
    Calls Try.prog 49 #[.slice (some ⟨g, 0, none⟩) L.length cap] w fun e w' => e = .returned (.int .i64 (spansE L)) ∧ Below w.heap.size w w' := by
  have HL := hid hL
  have HC := hid hcl
  clear hL hcl
  obtain ⟨n, hn⟩ : ∃ n, n = L.length := ⟨_, rfl⟩
  have HN := hid hn
  rw [← hn]
  rw [← hn] at hlen
  clear hn
  go_enter Try.func49, Try.ntmps49
  go_wp2_with fail
  go_loopw [9] (fun s9 wr => ∃ k : Nat, s9 = .int .i64 (k : Int) ∧ k ≤ n ∧ (∀ j, j < k → spanB (L.getD j (0, 0)).1 (L.getD j (0, 0)).2 = true) ∧ Below w.heap.size w wr) (fun s9 _ => n - (intOf s9).toNat)
  case atStart => exact ⟨0, rfl, by omega, fun j hj => by omega, Below.refl _ _⟩
  case round =>
    obtain ⟨k, rfl, hk, hall, hbw⟩ := hrel
    have HALL := hid hall
    clear hall
    by_cases hkn : k < n
    · obtain ⟨l, hl⟩ : ∃ l, l = (L.getD k (0, 0)).1 := ⟨_, rfl⟩
      obtain ⟨h, hh⟩ : ∃ h, h = (L.getD k (0, 0)).2 := ⟨_, rfl⟩
      obtain ⟨c0, c1⟩ := (HC.out.below hbw) k (by rw [← HN.out]; exact hkn)
      obtain ⟨ul, uh⟩ := HL.out k (by rw [← HN.out]; exact hkn)
      rw [← hl] at c0 ul
      rw [← hh] at c1 uh
      have HBAD := hid (fun hf : spanB l h = false => spansE_bad (L := L) (k := k) (by rw [← HN.out]; exact hkn) (by rw [← hl, ← hh]; exact hf))
      have HGOOD := hid (fun ht : spanB l h = true => show ∀ j, j < k + 1 → spanB (L.getD j (0, 0)).1 (L.getD j (0, 0)).2 = true from fun j hj => by
        by_cases e : j = k
        · subst e; rw [← hl, ← hh]; exact ht
        · exact HALL.out j (by omega))
      clear hl hh HALL
      have N1 := hid (fun w => isNan_any l ul w)
      have N2 := hid (fun w => isNan_any h uh w)
      have Z1 := hid (fun w => isZero_any l ul w)
      have Z2 := hid (fun w => isZero_any h uh w)
      have M1 := hid (fun w => minus_any' l w)
      have M2 := hid (fun w => minus_any' h w)
      go_upto_region 4 with fail
      have zV : SV (wr.alloc (.cells #[.int .u64 l, .int .u64 h] 61)) wr.heap.size l h := SV.made rfl
      have hbv : Below w.heap.size w (wr.alloc (.cells #[.int .u64 l, .int .u64 h] 61)) := hbw.alloc hbw.size _
      obtain ⟨v0, v1, -, -⟩ := id zV
      obtain ⟨b, hbq⟩ : ∃ b : Bool, b = (nanB l || nanB h || (zeroB l && negB l) || (zeroB h && negB h)) := ⟨_, rfl⟩
      have HB := hid hbq
      clear hbq
      have ZV := hid zV
      have HBV := hid hbv
      clear zV hbv c0 c1 hbw
      go_cut [40] (fun s40 wx => s40 = .bool b ∧ wx = wr.alloc (.cells #[.int .u64 l, .int .u64 h] 61))
      case first => as_aux_lemma =>
        clear HBAD HGOOD HC HL HBV ZV
        cases h1 : nanB l
        · cases h2 : nanB h
          · cases h3 : zeroB l
            · cases h5 : zeroB h
              · have hb' := HB.out
                simp [h1, h2, h3, h5] at hb'
                subst hb'
                go_wp2_with (first | (go_at_call 97; (first | ((with_reducible refine (N1.out _).mono ?_)) | ((with_reducible refine (N2.out _).mono ?_))); rintro e w' ⟨rfl, rfl⟩) | (go_at_call 51; (first | ((with_reducible refine (Z1.out _).mono ?_)) | ((with_reducible refine (Z2.out _).mono ?_))); rintro e w' ⟨rfl, rfl⟩) | (go_at_call 98; (first | ((with_reducible refine (M1.out _).mono ?_)) | ((with_reducible refine (M2.out _).mono ?_))); rintro e w' ⟨rfl, rfl⟩))
                go_meet
                exact ⟨rfl, rfl⟩
              · cases h6 : negB h
                · have hb' := HB.out
                  simp [h1, h2, h3, h5, h6] at hb'
                  subst hb'
                  go_wp2_with (first | (go_at_call 97; (first | ((with_reducible refine (N1.out _).mono ?_)) | ((with_reducible refine (N2.out _).mono ?_))); rintro e w' ⟨rfl, rfl⟩) | (go_at_call 51; (first | ((with_reducible refine (Z1.out _).mono ?_)) | ((with_reducible refine (Z2.out _).mono ?_))); rintro e w' ⟨rfl, rfl⟩) | (go_at_call 98; (first | ((with_reducible refine (M1.out _).mono ?_)) | ((with_reducible refine (M2.out _).mono ?_))); rintro e w' ⟨rfl, rfl⟩))
                  go_meet
                  exact ⟨rfl, rfl⟩
                · have hb' := HB.out
                  simp [h1, h2, h3, h5, h6] at hb'
                  subst hb'
                  go_wp2_with (first | (go_at_call 97; (first | ((with_reducible refine (N1.out _).mono ?_)) | ((with_reducible refine (N2.out _).mono ?_))); rintro e w' ⟨rfl, rfl⟩) | (go_at_call 51; (first | ((with_reducible refine (Z1.out _).mono ?_)) | ((with_reducible refine (Z2.out _).mono ?_))); rintro e w' ⟨rfl, rfl⟩) | (go_at_call 98; (first | ((with_reducible refine (M1.out _).mono ?_)) | ((with_reducible refine (M2.out _).mono ?_))); rintro e w' ⟨rfl, rfl⟩))
                  go_meet
                  exact ⟨rfl, rfl⟩
            · cases h4 : negB l
              · cases h5 : zeroB h
                · have hb' := HB.out
                  simp [h1, h2, h3, h4, h5] at hb'
                  subst hb'
                  go_wp2_with (first | (go_at_call 97; (first | ((with_reducible refine (N1.out _).mono ?_)) | ((with_reducible refine (N2.out _).mono ?_))); rintro e w' ⟨rfl, rfl⟩) | (go_at_call 51; (first | ((with_reducible refine (Z1.out _).mono ?_)) | ((with_reducible refine (Z2.out _).mono ?_))); rintro e w' ⟨rfl, rfl⟩) | (go_at_call 98; (first | ((with_reducible refine (M1.out _).mono ?_)) | ((with_reducible refine (M2.out _).mono ?_))); rintro e w' ⟨rfl, rfl⟩))
                  go_meet
                  exact ⟨rfl, rfl⟩
                · cases h6 : negB h
                  · have hb' := HB.out
                    simp [h1, h2, h3, h4, h5, h6] at hb'
                    subst hb'
                    go_wp2_with (first | (go_at_call 97; (first | ((with_reducible refine (N1.out _).mono ?_)) | ((with_reducible refine (N2.out _).mono ?_))); rintro e w' ⟨rfl, rfl⟩) | (go_at_call 51; (first | ((with_reducible refine (Z1.out _).mono ?_)) | ((with_reducible refine (Z2.out _).mono ?_))); rintro e w' ⟨rfl, rfl⟩) | (go_at_call 98; (first | ((with_reducible refine (M1.out _).mono ?_)) | ((with_reducible refine (M2.out _).mono ?_))); rintro e w' ⟨rfl, rfl⟩))
                    go_meet
                    exact ⟨rfl, rfl⟩
                  · have hb' := HB.out
                    simp [h1, h2, h3, h4, h5, h6] at hb'
                    subst hb'
                    go_wp2_with (first | (go_at_call 97; (first | ((with_reducible refine (N1.out _).mono ?_)) | ((with_reducible refine (N2.out _).mono ?_))); rintro e w' ⟨rfl, rfl⟩) | (go_at_call 51; (first | ((with_reducible refine (Z1.out _).mono ?_)) | ((with_reducible refine (Z2.out _).mono ?_))); rintro e w' ⟨rfl, rfl⟩) | (go_at_call 98; (first | ((with_reducible refine (M1.out _).mono ?_)) | ((with_reducible refine (M2.out _).mono ?_))); rintro e w' ⟨rfl, rfl⟩))
                    go_meet
                    exact ⟨rfl, rfl⟩
              · have hb' := HB.out
                simp [h1, h2, h3, h4] at hb'
                subst hb'
                go_wp2_with (first | (go_at_call 97; (first | ((with_reducible refine (N1.out _).mono ?_)) | ((with_reducible refine (N2.out _).mono ?_))); rintro e w' ⟨rfl, rfl⟩) | (go_at_call 51; (first | ((with_reducible refine (Z1.out _).mono ?_)) | ((with_reducible refine (Z2.out _).mono ?_))); rintro e w' ⟨rfl, rfl⟩) | (go_at_call 98; (first | ((with_reducible refine (M1.out _).mono ?_)) | ((with_reducible refine (M2.out _).mono ?_))); rintro e w' ⟨rfl, rfl⟩))
                go_meet
                exact ⟨rfl, rfl⟩
          · have hb' := HB.out
            simp [h1, h2] at hb'
            subst hb'
            go_wp2_with (first | (go_at_call 97; (first | ((with_reducible refine (N1.out _).mono ?_)) | ((with_reducible refine (N2.out _).mono ?_))); rintro e w' ⟨rfl, rfl⟩) | (go_at_call 51; (first | ((with_reducible refine (Z1.out _).mono ?_)) | ((with_reducible refine (Z2.out _).mono ?_))); rintro e w' ⟨rfl, rfl⟩) | (go_at_call 98; (first | ((with_reducible refine (M1.out _).mono ?_)) | ((with_reducible refine (M2.out _).mono ?_))); rintro e w' ⟨rfl, rfl⟩))
            go_meet
            exact ⟨rfl, rfl⟩
        · have hb' := HB.out
          simp [h1] at hb'
          subst hb'
          go_wp2_with (first | (go_at_call 97; (first | ((with_reducible refine (N1.out _).mono ?_)) | ((with_reducible refine (N2.out _).mono ?_))); rintro e w' ⟨rfl, rfl⟩) | (go_at_call 51; (first | ((with_reducible refine (Z1.out _).mono ?_)) | ((with_reducible refine (Z2.out _).mono ?_))); rintro e w' ⟨rfl, rfl⟩) | (go_at_call 98; (first | ((with_reducible refine (M1.out _).mono ?_)) | ((with_reducible refine (M2.out _).mono ?_))); rintro e w' ⟨rfl, rfl⟩))
          go_meet
          exact ⟨rfl, rfl⟩
      case rest =>
        obtain ⟨rfl, rfl⟩ := hcut
        obtain ⟨fb1, fb2⟩ := span_flags ul uh HB.out
        clear N1 N2 Z1 Z2 M1 M2 HB
        cases hbb : b
        · obtain ⟨nl, nh, zl, zh⟩ := fb2 hbb
          clear fb1 fb2 hbb
          have EL := hid (fun w => extOf_any l ul nl w)
          have EH := hid (fun w => extOf_any h uh nh w)
          go_wp2_with fail
          refine wp_region_growF 8 [41, 42, 43, 44, 45, 46, 5, 6] [Fact.is (.pointer (some ⟨wr.heap.size, 0, none⟩)), Fact.is (.int .u64 l), Fact.e 3 l, Fact.is (.pointer (some ⟨wr.heap.size, 1, none⟩)), Fact.is (.int .u64 h), Fact.e 3 h, Fact.e0 (wr.heap.size + 1) 75, Fact.e0 (wr.heap.size + 1) 75] [6, 7] (by kernel_rfl) (by kernel_rfl) ⟨?o0, ?o1, ?o2, ?o3, ?o4, ?o5, ?o6, ?o7, trivial⟩ ?after
          case o0 => (refine StepOKF.plain rfl ?_; intro ρ w1 R hρ hb hp hR; have e4 : ρ (.tmp 4) = .pointer (some ⟨wr.heap.size, 0, none⟩) := hρ.tmp 4 rfl; replace hR := fun v w2 h1 h2 => hR v w2 h1 h2 (fun h => absurd h (by decide)); have hcon := hρ.con; have hfn := hρ.fn; clear hρ hp; unfold OpRun; go_simp; exact hR _ _ (Below.refl _ _) rfl)
          case o1 => (refine StepOKF.plain rfl ?_; intro ρ w1 R hρ hb hp hR; have e41 : ρ (.tmp 41) = _ := hp 0 41 rfl rfl; obtain ⟨j0, j1, j2, j3⟩ := ZV.out.below hb; replace hR := fun v w2 h1 h2 => hR v w2 h1 h2 (fun h => absurd h (by decide)); have hcon := hρ.con; have hfn := hρ.fn; clear hρ hp; unfold OpRun; go_simp; exact hR _ _ (Below.refl _ _) rfl)
          case o2 => (refine StepOKF.plain rfl ?_; intro ρ w1 R hρ hb hp hR; have e42 : ρ (.tmp 42) = _ := hp 1 42 rfl rfl; replace hR := fun v w2 h1 h2 => hR v w2 h1 h2 (fun h => absurd h (by decide)); have hcon := hρ.con; have hfn := hρ.fn; clear hρ hp; unfold OpRun; go_simp; (refine (EL.out _).mono ?_; rintro e wn ⟨v, rfl, hE, hbn⟩; exact ⟨_, rfl, hR _ _ hbn hE⟩))
          case o3 => (refine StepOKF.plain rfl ?_; intro ρ w1 R hρ hb hp hR; have e4 : ρ (.tmp 4) = .pointer (some ⟨wr.heap.size, 0, none⟩) := hρ.tmp 4 rfl; replace hR := fun v w2 h1 h2 => hR v w2 h1 h2 (fun h => absurd h (by decide)); have hcon := hρ.con; have hfn := hρ.fn; clear hρ hp; unfold OpRun; go_simp; exact hR _ _ (Below.refl _ _) rfl)
          case o4 => (refine StepOKF.plain rfl ?_; intro ρ w1 R hρ hb hp hR; have e44 : ρ (.tmp 44) = _ := hp 3 44 rfl rfl; obtain ⟨j0, j1, j2, j3⟩ := ZV.out.below hb; replace hR := fun v w2 h1 h2 => hR v w2 h1 h2 (fun h => absurd h (by decide)); have hcon := hρ.con; have hfn := hρ.fn; clear hρ hp; unfold OpRun; go_simp; exact hR _ _ (Below.refl _ _) rfl)
          case o5 => (refine StepOKF.plain rfl ?_; intro ρ w1 R hρ hb hp hR; have e45 : ρ (.tmp 45) = _ := hp 4 45 rfl rfl; replace hR := fun v w2 h1 h2 => hR v w2 h1 h2 (fun h => absurd h (by decide)); have hcon := hρ.con; have hfn := hρ.fn; clear hρ hp; unfold OpRun; go_simp; (refine (EH.out _).mono ?_; rintro e wn ⟨v, rfl, hE, hbn⟩; exact ⟨_, rfl, hR _ _ hbn hE⟩))
          case o6 => (refine StepOKF.plain rfl ?_; intro ρ w1 R hρ hb hp hR; have hcon := hρ.con; have hfn := hρ.fn; clear hρ hp; unfold OpRun; go_simp; exact hR _ _ (below_alloc _ _) ⟨_, rfl, by have := hb.size; simpa using this, E0.made rfl⟩ (fun _ => ⟨_, rfl, Nat.le_refl _, by simp⟩))
          case o7 => (refine StepOKF.plain rfl ?_; intro ρ w1 R hρ hb hp hR; have hcon := hρ.con; have hfn := hρ.fn; clear hρ hp; unfold OpRun; go_simp; exact hR _ _ (below_alloc _ _) ⟨_, rfl, by have := hb.size; simpa using this, E0.made rfl⟩ (fun _ => ⟨_, rfl, Nat.le_refl _, by simp⟩))
          case after =>
            intro u wn hb hf hd
            have f43 := hf 2 43 (by omega) rfl
            have f46 := hf 5 46 (by omega) rfl
            have f5 := hf 6 5 (by omega) rfl
            have f6 := hf 7 6 (by omega) rfl
            have d5_6 : u 5 ≠ u 6 := hd 6 7 5 6 (by omega) (by omega) (by omega) rfl rfl rfl rfl
            clear hf hd
            simp only [putAll, Act.put, List.setIfInBounds_toArray, List.set_cons_zero, List.set_cons_succ]
            obtain ⟨g5, e5, hg5, z5⟩ := f5
            obtain ⟨g6, e6, hg6, z6⟩ := f6
            have hne : g5 ≠ g6 := fun hh => d5_6 (by rw [e5, e6, hh])
            have hE1 := hid f43
            have hE2 := hid f46
            obtain ⟨n1, a1, l1, c1, t1, way1, e43, q1⟩ := f43
            obtain ⟨n2, a2, l2, c2, t2, way2, e46, q2⟩ := f46
            rw [e43] at hE1
            rw [e46] at hE2
            have yb : Below w.heap.size w wn := below_trans HBV.out hb
            have hgw5 : w.heap.size ≤ g5 := by have := HBV.out.size; simp at this; omega
            have hgw6 : w.heap.size ≤ g6 := by have := HBV.out.size; simp at this; omega
            obtain ⟨x0, x1, x2, x3, i0, i1, i2, i3, i4, i5, i6, i7, s5⟩ := z5.cells
            obtain ⟨y0, y1, y2, y3, j0, j1, j2, j3, j4, j5, j6, j7, s6⟩ := z6.cells
            have HQ1 := hid q1
            have HQ2 := hid q2
            have Hyb := hid yb
            rw [e43, e46, e5, e6]
            clear d5_6 e43 e46 e5 e6 hb z5 z6 q1 q2 yb HBV ZV EL EH
            have HI := hid (way_one ul.1 ul.2 nl)
            have HJ := hid (way_one uh.1 uh.2 nh)
            by_cases hw1 : way1 = 1
            · have b1 : (way1 == 1) = true := by simpa using hw1
              have HF := hid (HBAD.out (by
                rcases HQ1.out with ⟨_, e, _⟩ | ⟨e1, e2⟩
                · omega
                · have := (HI.out e1).1 (by cases hg : negB l <;> rw [hg] at e2 <;> simp at e2 <;> first | rfl | omega)
                  unfold spanB edgeB; simp [this]))
              clear hw1
              go_wp2_with fail
              go_ret
              exact ⟨ret_int HF.out, (Hyb.out.set4 hgw5 _ _ _ _).set4 hgw6 _ _ _ _⟩
            · have b1 : (way1 == 1) = false := by simpa using hw1
              by_cases hw2 : way2 = -1
              · have b2 : (way2 == -1) = true := by simpa using hw2
                have HF := hid (HBAD.out (by
                  rcases HQ2.out with ⟨_, e, _⟩ | ⟨e1, e2⟩
                  · omega
                  · have := (HJ.out e1).2 (by cases hg : negB h <;> rw [hg] at e2 <;> simp at e2 <;> first | rfl | omega)
                    unfold spanB edgeB; simp [this]))
                clear hw1 hw2
                go_wp2_with fail
                go_ret
                exact ⟨ret_int HF.out, (Hyb.out.set4 hgw5 _ _ _ _).set4 hgw6 _ _ _ _⟩
              · have b2 : (way2 == -1) = false := by simpa using hw2
                have hi1 : l ≠ 9218868437227405312 := by
                  intro e
                  rcases HQ1.out with ⟨e0, _, _⟩ | ⟨e1, e2⟩
                  · subst e; revert e0; decide
                  · subst e; exact hw1 (by rw [e2]; decide)
                have hi2 : h ≠ 18442240474082181120 := by
                  intro e
                  rcases HQ2.out with ⟨e0, _, _⟩ | ⟨e1, e2⟩
                  · subst e; revert e0; decide
                  · subst e; exact hw2 (by rw [e2]; decide)
                have hse := span_end nl nh zl zh hi1 hi2
                obtain ⟨c, hcc⟩ : ∃ c, c = cmpI (rankOf l) (rankOf h) := ⟨_, rfl⟩
                rw [← hcc] at hse
                have EC := hid (fun (W : World) (x : ED 3 W l (.agg #[.bool n1, .slice a1 l1 c1, .int .i64 t1, .int .i64 way1])) (y : ED 3 W h (.agg #[.bool n2, .slice a2 l2 c2, .int .i64 t2, .int .i64 way2])) => extCmp_any _ _ l h ul uh nl nh W x y)
                rw [← hcc] at EC
                have h5 : (75 : TypeId) ≠ 3 := by decide
                clear hw1 hw2 hcc HI HJ HQ1 HQ2 hi1 hi2
                by_cases hgt : 0 < c
                · have HF := hid (HBAD.out (by rw [hse]; simp; omega))
                  clear hse
                  go_wp2_with fail
                  refine (EC.out _ ((ED.set4 hE1.out s5 h5 _ _ _ _).set4 (s6.set4 _ _ _ _) h5 _ _ _ _) ((ED.set4 hE2.out s5 h5 _ _ _ _).set4 (s6.set4 _ _ _ _) h5 _ _ _ _)).mono ?_
                  rintro e w9 ⟨rfl, hb9⟩
                  go_wp2_with fail
                  go_ret
                  exact ⟨ret_int HF.out, below_trans ((Hyb.out.set4 hgw5 _ _ _ _).set4 hgw6 _ _ _ _) hb9⟩
                · have HG := hid (HGOOD.out (by rw [hse]; simp; omega))
                  clear hse
                  go_wp2_with fail
                  refine (EC.out _ ((ED.set4 hE1.out s5 h5 _ _ _ _).set4 (s6.set4 _ _ _ _) h5 _ _ _ _) ((ED.set4 hE2.out s5 h5 _ _ _ _).set4 (s6.set4 _ _ _ _) h5 _ _ _ _)).mono ?_
                  rintro e w9 ⟨rfl, hb9⟩
                  go_wp2_with fail
                  go_roundw
                  case rel => exact ⟨k + 1, by go_num, by omega, HG.out, below_trans ((Hyb.out.set4 hgw5 _ _ _ _).set4 hgw6 _ _ _ _) hb9⟩
                  case measure => simp [intOf]; omega
        · have HF := hid (HBAD.out (fb1 hbb))
          clear fb1 fb2
          subst hbb
          go_wp2_with fail
          go_ret
          exact ⟨ret_int HF.out, HBV.out⟩
    · obtain rfl : k = n := by omega
      have HF := hid (spansE_good (L := L) (fun j hj => HALL.out j (by rw [HN.out]; exact hj)))
      go_wp2_with fail
      go_ret
      exact ⟨ret_int HF.out, hbw⟩
end Go.Proofs.Ytdoiobdomngccaa
