/- The law SpanSets walked: the Go text returns true. -/
import Derived.Test.YtdoiobdomngccaaSp4
import Derived.BigRegion
set_option linter.unusedVariables false
set_option linter.unusedSimpArgs false
namespace Go.Ulp
open Go.RowKit
def Fact.sl (L : List (Int × Int)) : Fact := ⟨fun v w => ∃ g cap, v = .slice (some ⟨g, 0, none⟩) L.length cap ∧ SL w g L, fun _ _ _ h hb => by obtain ⟨g, c, h1, h2⟩ := h; exact ⟨g, c, h1, h2.below hb⟩⟩
theorem SL.made1 {w : World} {l h : Int} {t : TypeId} : SL (w.alloc (.cells #[.int .u64 l, .int .u64 h] t)) w.heap.size [(l, h)] := by
  intro i hi
  have : i = 0 := by simp at hi; omega
  subst this
  refine ⟨?_, ?_⟩ <;> (rw [World.cell?_alloc_at (hn := rfl)]; rfl)
theorem SL.made2 {w : World} {l h m i : Int} {t : TypeId} : SL (w.alloc (.cells #[.int .u64 l, .int .u64 h, .int .u64 m, .int .u64 i] t)) w.heap.size [(l, h), (m, i)] := by
  intro k hk
  rcases (show k = 0 ∨ k = 1 by simp at hk; omega) with e | e <;> subst e
  · refine ⟨?_, ?_⟩ <;> (rw [World.cell?_alloc_at (hn := rfl)]; rfl)
  · refine ⟨?_, ?_⟩ <;> (rw [World.cell?_alloc_at (hn := rfl)]; rfl)
theorem spansE_one (l h : Int) : spansE [(l, h)] = spanE l h := by unfold spansE spanE; simp
/-- what stays through the law -/
def LS (w W : World) (gA gB gO gH gM : Nat) (al ah bl bh o1 o2 h1 h2 m1 m2 : Int) : Prop :=
  Below w.heap.size w W ∧ SV W gA al ah ∧ SV W gB bl bh ∧ SV W gO o1 o2 ∧ SV W gH h1 h2 ∧ SV W gM m1 m2
theorem LS.below {w W W' : World} {gA gB gO gH gM : Nat} {al ah bl bh o1 o2 h1 h2 m1 m2 : Int} (h : LS w W gA gB gO gH gM al ah bl bh o1 o2 h1 h2 m1 m2) (hb : Below W.heap.size W W') : LS w W' gA gB gO gH gM al ah bl bh o1 o2 h1 h2 m1 m2 :=
  ⟨below_trans h.1 hb, h.2.1.below hb, h.2.2.1.below hb, h.2.2.2.1.below hb, h.2.2.2.2.1.below hb, h.2.2.2.2.2.below hb⟩
/-- block g is a variable of four cells -/
def XV (w : World) (g : Nat) (c0 c1 c2 c3 : Value) : Prop := w.cell? ⟨g, 0, none⟩ = some c0 ∧ w.cell? ⟨g, 1, none⟩ = some c1 ∧ w.cell? ⟨g, 2, none⟩ = some c2 ∧ w.cell? ⟨g, 3, none⟩ = some c3
theorem XV.below {w w' : World} {g : Nat} {c0 c1 c2 c3 : Value} (h : XV w g c0 c1 c2 c3) (hb : Below w.heap.size w w') : XV w' g c0 c1 c2 c3 := by
  have hl : g < w.heap.size := World.block_lt_of_cell? w _ h.1
  exact ⟨(hb.cell (p := ⟨g, 0, none⟩) hl).trans h.1, (hb.cell (p := ⟨g, 1, none⟩) hl).trans h.2.1, (hb.cell (p := ⟨g, 2, none⟩) hl).trans h.2.2.1, (hb.cell (p := ⟨g, 3, none⟩) hl).trans h.2.2.2⟩
theorem XV.made {w : World} {c0 c1 c2 c3 : Value} {t : TypeId} : XV (w.alloc (.cells #[c0, c1, c2, c3] t)) w.heap.size c0 c1 c2 c3 := by
  refine ⟨?_, ?_, ?_, ?_⟩ <;> (rw [World.cell?_alloc_at (hn := rfl)]; rfl)
theorem SV.far {w : World} {g : Nat} {l h : Int} (hs : SV w g l h) (a : Addr) (u : Value) (hne : g ≠ a.block) : SV (w.setCell a u) g l h := by
  obtain ⟨h1, h2, h3, h4⟩ := hs
  refine ⟨?_, ?_, ?_, ?_⟩
  · rw [World.cell?_setCell_other (h := fun e => hne (by rw [e]))]; exact h1
  · rw [World.cell?_setCell_other (h := fun e => hne (by rw [e]))]; exact h2
  · rw [frozen_setCell]; exact h3
  · rw [frozen_setCell]; exact h4
theorem SV.set0 {w : World} {g : Nat} {l h : Int} (hs : SV w g l h) (u : Int) : SV (w.setCell ⟨g, 0, none⟩ (.int .u64 u)) g u h := by
  obtain ⟨h1, h2, h3, h4⟩ := hs
  refine ⟨?_, ?_, ?_, ?_⟩
  · exact World.cell?_setCell_same (w := w) _ _ h1
  · rw [World.cell?_setCell_other (h := fun e => by simp at e)]; exact h2
  · rw [frozen_setCell]; exact h3
  · rw [frozen_setCell]; exact h4
theorem SV.set1 {w : World} {g : Nat} {l h : Int} (hs : SV w g l h) (u : Int) : SV (w.setCell ⟨g, 1, none⟩ (.int .u64 u)) g l u := by
  obtain ⟨h1, h2, h3, h4⟩ := hs
  refine ⟨?_, ?_, ?_, ?_⟩
  · rw [World.cell?_setCell_other (h := fun e => by simp at e)]; exact h1
  · exact World.cell?_setCell_same (w := w) _ _ h2
  · rw [frozen_setCell]; exact h3
  · rw [frozen_setCell]; exact h4
theorem LS.far {w W : World} {gA gB gO gH gM : Nat} {al ah bl bh o1 o2 h1 h2 m1 m2 : Int} (h : LS w W gA gB gO gH gM al ah bl bh o1 o2 h1 h2 m1 m2) (a : Addr) (u : Value) (hw : w.heap.size ≤ a.block) (hA : gA ≠ a.block) (hB : gB ≠ a.block) (hO : gO ≠ a.block) (hH : gH ≠ a.block) (hM : gM ≠ a.block) : LS w (W.setCell a u) gA gB gO gH gM al ah bl bh o1 o2 h1 h2 m1 m2 :=
  ⟨h.1.setCell hw u, h.2.1.far a u hA, h.2.2.1.far a u hB, h.2.2.2.1.far a u hO, h.2.2.2.2.1.far a u hH, h.2.2.2.2.2.far a u hM⟩
theorem LS.lts {w W : World} {gA gB gO gH gM : Nat} {al ah bl bh o1 o2 h1 h2 m1 m2 : Int} (h : LS w W gA gB gO gH gM al ah bl bh o1 o2 h1 h2 m1 m2) : gA < W.heap.size ∧ gB < W.heap.size ∧ gO < W.heap.size ∧ gH < W.heap.size ∧ gM < W.heap.size :=
  ⟨h.2.1.lt, h.2.2.1.lt, h.2.2.2.1.lt, h.2.2.2.2.1.lt, h.2.2.2.2.2.lt⟩
/-- the hull and the meet beside it -/
def LQ (w W : World) (gA gB gO gH gM g g' : Nat) (al ah bl bh o1 o2 h1 h2 m1 m2 x y z v : Int) : Prop :=
  LS w W gA gB gO gH gM al ah bl bh o1 o2 h1 h2 m1 m2 ∧ SV W g x y ∧ SV W g' z v
theorem LQ.below {w W W' : World} {gA gB gO gH gM g g' : Nat} {al ah bl bh o1 o2 h1 h2 m1 m2 x y z v : Int} (h : LQ w W gA gB gO gH gM g g' al ah bl bh o1 o2 h1 h2 m1 m2 x y z v) (hb : Below W.heap.size W W') : LQ w W' gA gB gO gH gM g g' al ah bl bh o1 o2 h1 h2 m1 m2 x y z v :=
  ⟨h.1.below hb, h.2.1.below hb, h.2.2.below hb⟩
theorem LQ.set {w W : World} {gA gB gO gH gM g g' : Nat} {al ah bl bh o1 o2 h1 h2 m1 m2 x y z v : Int} (h : LQ w W gA gB gO gH gM g g' al ah bl bh o1 o2 h1 h2 m1 m2 x y z v)
    (hw : w.heap.size ≤ g ∧ w.heap.size ≤ g') (hg : gA ≠ g ∧ gB ≠ g ∧ gO ≠ g ∧ gH ≠ g ∧ gM ≠ g) (hg' : gA ≠ g' ∧ gB ≠ g' ∧ gO ≠ g' ∧ gH ≠ g' ∧ gM ≠ g') (hne : g ≠ g') (u : Int) :
    LQ w (W.setCell ⟨g, 0, none⟩ (.int .u64 u)) gA gB gO gH gM g g' al ah bl bh o1 o2 h1 h2 m1 m2 u y z v ∧ LQ w (W.setCell ⟨g, 1, none⟩ (.int .u64 u)) gA gB gO gH gM g g' al ah bl bh o1 o2 h1 h2 m1 m2 x u z v ∧
    LQ w (W.setCell ⟨g', 0, none⟩ (.int .u64 u)) gA gB gO gH gM g g' al ah bl bh o1 o2 h1 h2 m1 m2 x y u v ∧ LQ w (W.setCell ⟨g', 1, none⟩ (.int .u64 u)) gA gB gO gH gM g g' al ah bl bh o1 o2 h1 h2 m1 m2 x y z u := by
  obtain ⟨h1, h2, h3⟩ := h
  exact ⟨⟨h1.far _ _ hw.1 hg.1 hg.2.1 hg.2.2.1 hg.2.2.2.1 hg.2.2.2.2, h2.set0 u, h3.far _ _ (Ne.symm hne)⟩, ⟨h1.far _ _ hw.1 hg.1 hg.2.1 hg.2.2.1 hg.2.2.2.1 hg.2.2.2.2, h2.set1 u, h3.far _ _ (Ne.symm hne)⟩,
    ⟨h1.far _ _ hw.2 hg'.1 hg'.2.1 hg'.2.2.1 hg'.2.2.2.1 hg'.2.2.2.2, h2.far _ _ hne, h3.set0 u⟩, ⟨h1.far _ _ hw.2 hg'.1 hg'.2.1 hg'.2.2.1 hg'.2.2.2.1 hg'.2.2.2.2, h2.far _ _ hne, h3.set1 u⟩⟩
end Go.Ulp
namespace Go.Proofs.Ytdoiobdomngccaa
open Go.RowKit Go.Ulp
set_option linter.unusedVariables false
set_option linter.unusedSimpArgs false
set_option maxHeartbeats 4000000
set_option maxRecDepth 100000
theorem spansE_two (l h m i : Int) : spansE [(l, h), (m, i)] = checkE l h m i := by unfold spansE checkE spanE; cases h1 : spanB l h <;> cases h2 : spanB m i <;> simp [h1, h2]
theorem hasB_eq (x : Int) (hx : U64 x) (l h : Int) (hs : spanB l h = true) (hv : valB x = true) : (leB l x && leB x h) = (decide (cmpI (rankOf l) (rankOf x) ≤ 0) && decide (cmpI (rankOf x) (rankOf h) ≤ 0)) := by
  obtain ⟨_, _, _, _, c1, c2, _⟩ := spanB_facts hs
  have c3 : classOf x ≠ 5 := by unfold valB at hv; have : classOf x < 4 := by simpa using hv
                                omega
  unfold leB
  rw [Bool.eq_iff_iff]
  simp [cmpI_le, c1, c2, c3]
theorem spanSets_walk (al ah bl bh x : Int) (hal : U64 al) (hah : U64 ah) (hbl : U64 bl) (hbh : U64 bh) (hx : U64 x) (w : World) :
    Calls Try.prog 8 #[.agg #[.int .u64 al, .int .u64 ah], .agg #[.int .u64 bl, .int .u64 bh], .int .u64 x] w fun e w' => e = .returned (.bool true) ∧ Below w.heap.size w w' := by
  have hO : ∃ o1 o2 eo : Int, (∀ w, Calls Try.prog 44 #[.int .u64 x] w fun e w' => e = .returned (.tuple #[.agg #[.int .u64 o1, .int .u64 o2], .int .i64 eo]) ∧ Below w.heap.size w w') ∧ ((valB x = true ∧ o1 = plainOf x ∧ o2 = plainOf x ∧ eo = 0) ∨ (valB x = false ∧ o1 = 0 ∧ o2 = 0 ∧ eo = 4)) := by
    cases hv : valB x
    · rw [← hasVal_valB x hx.1 hx.2] at hv
      exact ⟨0, 0, 4, fun w => (spanOf_any x hx w).mono (by rintro e w' ⟨rfl, hb⟩; exact ⟨by rw [hv]; rfl, hb⟩), .inr ⟨rfl, rfl, rfl, rfl⟩⟩
    · rw [← hasVal_valB x hx.1 hx.2] at hv
      exact ⟨plainOf x, plainOf x, 0, fun w => (spanOf_any x hx w).mono (by rintro e w' ⟨rfl, hb⟩; exact ⟨by rw [hv]; rfl, hb⟩), .inl ⟨rfl, rfl, rfl, rfl⟩⟩
  obtain ⟨o1, o2, eo, hOc, hOf⟩ := hO
  have hH : ∃ h1 h2 : Int, (∀ w, Calls Try.prog 46 #[.agg #[.int .u64 al, .int .u64 ah], .agg #[.int .u64 bl, .int .u64 bh]] w fun e w' => e = .returned (.tuple #[.agg #[.int .u64 h1, .int .u64 h2], .int .i64 (checkE al ah bl bh)]) ∧ Below w.heap.size w w') ∧ (checkE al ah bl bh = 0 → h1 = minOf al bl ∧ h2 = maxOf ah bh) ∧ (checkE al ah bl bh ≠ 0 → h1 = 0 ∧ h2 = 0) := by
    by_cases hc : checkE al ah bl bh = 0
    · exact ⟨minOf al bl, maxOf ah bh, fun w => (spanHull_any al ah bl bh hal hah hbl hbh w).mono (by rintro e w' ⟨rfl, hb⟩; exact ⟨by unfold hullV; rw [if_pos hc], hb⟩), fun _ => ⟨rfl, rfl⟩, fun h => absurd hc h⟩
    · exact ⟨0, 0, fun w => (spanHull_any al ah bl bh hal hah hbl hbh w).mono (by rintro e w' ⟨rfl, hb⟩; exact ⟨by unfold hullV; rw [if_neg hc], hb⟩), fun h => absurd h hc, fun _ => ⟨rfl, rfl⟩⟩
  obtain ⟨h1, h2, hHc, hHf⟩ := hH
  have hM : ∃ m1 m2 : Int, (∀ w, Calls Try.prog 47 #[.agg #[.int .u64 al, .int .u64 ah], .agg #[.int .u64 bl, .int .u64 bh]] w fun e w' => e = .returned (.tuple #[.agg #[.int .u64 m1, .int .u64 m2], .int .i64 (meetE al ah bl bh)]) ∧ Below w.heap.size w w') ∧ (checkE al ah bl bh = 0 ∧ leB (maxOf al bl) (minOf ah bh) = true → m1 = maxOf al bl ∧ m2 = minOf ah bh) ∧ (¬ (checkE al ah bl bh = 0 ∧ leB (maxOf al bl) (minOf ah bh) = true) → m1 = 0 ∧ m2 = 0) := by
    by_cases hc : checkE al ah bl bh = 0 ∧ leB (maxOf al bl) (minOf ah bh) = true
    · exact ⟨maxOf al bl, minOf ah bh, fun w => (spanMeet_any al ah bl bh hal hah hbl hbh w).mono (by rintro e w' ⟨rfl, hb⟩; exact ⟨by unfold meetV; rw [if_pos hc], hb⟩), fun _ => ⟨rfl, rfl⟩, fun h => absurd hc h⟩
    · exact ⟨0, 0, fun w => (spanMeet_any al ah bl bh hal hah hbl hbh w).mono (by rintro e w' ⟨rfl, hb⟩; exact ⟨by unfold meetV; rw [if_neg hc], hb⟩), fun h => absurd h hc, fun _ => ⟨rfl, rfl⟩⟩
  obtain ⟨m1, m2, hMc, hMf⟩ := hM
  obtain ⟨E, hEv⟩ : ∃ E, E = checkE al ah bl bh := ⟨_, rfl⟩
  obtain ⟨wi, hwi⟩ : ∃ b, b = withinB al ah bl bh := ⟨_, rfl⟩
  obtain ⟨me, hme⟩ : ∃ m, m = meetE al ah bl bh := ⟨_, rfl⟩
  have HE := hid hEv
  have HWI := hid (show wi = (decide (E = 0) && (leB bl al && leB ah bh)) by rw [hwi, hEv]; rfl)
  have HME := hid (show me = if E = 0 then (if leB (maxOf al bl) (minOf ah bh) = true then 0 else 4) else E by rw [hme, hEv]; rfl)
  rw [← hEv] at hHc hHf hMf
  rw [← hme] at hMc
  have COf := hid hOc
  have CHu := hid hHc
  have CMe := hid hMc
  have FO := hid hOf
  have FH := hid hHf
  have FM := hid hMf
  have CWi := hid (fun w => spanWithin_any al ah bl bh hal hah hbl hbh w)
  rw [← hwi, ← hEv] at CWi
  have CCk := hid (fun w => spanCheck_any al ah hal hah w)
  have CHas := hid (fun w => spanHas_any al ah x hal hah hx w)
  have VH := hid (fun w => rHasValue_any x hx w)
  have VZ := hid (fun w => isZero_any x hx w)
  have CS1 : Hid (∀ (W : World) (g c : Nat), SL W g [(al, ah)] → Calls Try.prog 49 #[.slice (some ⟨g, 0, none⟩) 1 c] W fun e w' => e = .returned (.int .i64 (spansE [(al, ah)])) ∧ Below W.heap.size W w') :=
    hid (fun (W : World) (g c : Nat) (h : SL W g [(al, ah)]) => spansRight_any [(al, ah)] (by intro j hj; simp at hj; subst hj; exact ⟨hal, hah⟩) (by simp) g c W h)
  have CS2 : Hid (∀ (W : World) (g c : Nat), SL W g [(al, ah), (bl, bh)] → Calls Try.prog 49 #[.slice (some ⟨g, 0, none⟩) 2 c] W fun e w' => e = .returned (.int .i64 (spansE [(al, ah), (bl, bh)])) ∧ Below W.heap.size W w') :=
    hid (fun (W : World) (g c : Nat) (h : SL W g [(al, ah), (bl, bh)]) => spansRight_any [(al, ah), (bl, bh)] (by intro j hj; rcases (show j = 0 ∨ j = 1 by simp at hj; omega) with e | e <;> subst e; exact ⟨hal, hah⟩; exact ⟨hbl, hbh⟩) (by simp) g c W h)
  obtain ⟨vb, hvb⟩ : ∃ b : Bool, b = valB x := ⟨_, rfl⟩
  rw [← hvb] at VH FO
  have HVB := hid hvb
  clear hvb
  rw [spansE_one] at CS1
  rw [spansE_two, ← hEv] at CS2
  clear hEv hwi hme
  clear hOc hHc hMc hOf hHf hMf
  go_enter Try.func8, Try.ntmps8
  go_wp2_with fail
  have yA : SV ((w.alloc (.cells #[.int .u64 al, .int .u64 ah] 61)).alloc (.cells #[.int .u64 bl, .int .u64 bh] 61)) w.heap.size al ah := (SV.made rfl).alloc _
  have yB : SV ((w.alloc (.cells #[.int .u64 al, .int .u64 ah] 61)).alloc (.cells #[.int .u64 bl, .int .u64 bh] 61)) (w.heap.size + 1) bl bh := SV.made (by first | omega | (simp; done) | (simp; omega))
  refine (COf.out _).mono ?_
  rintro e w1 ⟨rfl, hb1⟩
  have yb1 : Below w.heap.size w w1 := by (repeat' (first | (with_reducible assumption) | (with_reducible exact Below.refl _ _) | (with_reducible refine below_al ?_ _) | (with_reducible refine below_drewN ?_ _) | (with_reducible refine Below.drew ?_) | (with_reducible refine Below.alloc ?_ ?_ _) | (with_reducible refine Below.setCell ?_ ?_ _) | (refine below_trans ?_ (by assumption)) | go_size))
  have zA1 := (yA.below hb1).alloc (.cells #[.int .u64 o1, .int .u64 o2] 61)
  have zB1 := (yB.below hb1).alloc (.cells #[.int .u64 o1, .int .u64 o2] 61)
  have zO1 : SV (w1.alloc (.cells #[.int .u64 o1, .int .u64 o2] 61)) w1.heap.size o1 o2 := SV.made rfl
  clear yA yB hb1
  obtain ⟨ka0, ka1, -, -⟩ := id zA1
  obtain ⟨kb0, kb1, -, -⟩ := id zB1
  go_wp2_with fail
  refine (CWi.out _).mono ?_
  rintro e w2 ⟨rfl, hb2⟩
  have yb2 : Below w.heap.size w w2 := by (repeat' (first | (with_reducible assumption) | (with_reducible exact Below.refl _ _) | (with_reducible refine below_al ?_ _) | (with_reducible refine below_drewN ?_ _) | (with_reducible refine Below.drew ?_) | (with_reducible refine Below.alloc ?_ ?_ _) | (with_reducible refine Below.setCell ?_ ?_ _) | (refine below_trans ?_ (by assumption)) | go_size))
  have zA2 := zA1.below hb2
  have zB2 := zB1.below hb2
  have zO2 := zO1.below hb2
  clear zA1 zB1 zO1 hb2 ka0 ka1 kb0 kb1 yb1
  obtain ⟨ka0, ka1, -, -⟩ := id zA2
  obtain ⟨kb0, kb1, -, -⟩ := id zB2
  go_wp2_with fail
  refine (CHu.out _).mono ?_
  rintro e w3 ⟨rfl, hb3⟩
  have yb3 : Below w.heap.size w w3 := by (repeat' (first | (with_reducible assumption) | (with_reducible exact Below.refl _ _) | (with_reducible refine below_al ?_ _) | (with_reducible refine below_drewN ?_ _) | (with_reducible refine Below.drew ?_) | (with_reducible refine Below.alloc ?_ ?_ _) | (with_reducible refine Below.setCell ?_ ?_ _) | (refine below_trans ?_ (by assumption)) | go_size))
  have zA3 := (zA2.below hb3).alloc (.cells #[.int .u64 h1, .int .u64 h2] 61)
  have zB3 := (zB2.below hb3).alloc (.cells #[.int .u64 h1, .int .u64 h2] 61)
  have zO3 := (zO2.below hb3).alloc (.cells #[.int .u64 h1, .int .u64 h2] 61)
  have zH3 : SV (w3.alloc (.cells #[.int .u64 h1, .int .u64 h2] 61)) w3.heap.size h1 h2 := SV.made rfl
  clear zA2 zB2 zO2 hb3 ka0 ka1 kb0 kb1 yb2
  obtain ⟨ka0, ka1, -, -⟩ := id zA3
  obtain ⟨kb0, kb1, -, -⟩ := id zB3
  go_wp2_with fail
  refine (CMe.out _).mono ?_
  rintro e w4 ⟨rfl, hb4⟩
  have yb4 : Below w.heap.size w w4 := by (repeat' (first | (with_reducible assumption) | (with_reducible exact Below.refl _ _) | (with_reducible refine below_al ?_ _) | (with_reducible refine below_drewN ?_ _) | (with_reducible refine Below.drew ?_) | (with_reducible refine Below.alloc ?_ ?_ _) | (with_reducible refine Below.setCell ?_ ?_ _) | (refine below_trans ?_ (by assumption)) | go_size))
  have zA4 := (zA3.below hb4).alloc (.cells #[.int .u64 m1, .int .u64 m2] 61)
  have zB4 := (zB3.below hb4).alloc (.cells #[.int .u64 m1, .int .u64 m2] 61)
  have zO4 := (zO3.below hb4).alloc (.cells #[.int .u64 m1, .int .u64 m2] 61)
  have zH4 := (zH3.below hb4).alloc (.cells #[.int .u64 m1, .int .u64 m2] 61)
  have zM4 : SV (w4.alloc (.cells #[.int .u64 m1, .int .u64 m2] 61)) w4.heap.size m1 m2 := SV.made rfl
  have hLS0 : LS w (w4.alloc (.cells #[.int .u64 m1, .int .u64 m2] 61)) w.heap.size (w.heap.size + 1) w1.heap.size w3.heap.size w4.heap.size al ah bl bh o1 o2 h1 h2 m1 m2 := ⟨by (repeat' (first | (with_reducible assumption) | (with_reducible exact Below.refl _ _) | (with_reducible refine below_al ?_ _) | (with_reducible refine below_drewN ?_ _) | (with_reducible refine Below.drew ?_) | (with_reducible refine Below.alloc ?_ ?_ _) | (with_reducible refine Below.setCell ?_ ?_ _) | (refine below_trans ?_ (by assumption)) | go_size)), zA4, zB4, zO4, zH4, zM4⟩
  clear zA3 zB3 zO3 zH3 zA4 zB4 zO4 zH4 zM4 hb4 ka0 ka1 kb0 kb1 yb3 yb4
  go_upto_region 5 with fail
  refine wp_worldS (fun W => LS w W w.heap.size (w.heap.size + 1) w1.heap.size w3.heap.size w4.heap.size al ah bl bh o1 o2 h1 h2 m1 m2) hLS0 ?_
  intro W hLS
  clear hLS0
  obtain ⟨gA, hgA⟩ : ∃ g, g = w.heap.size := ⟨_, rfl⟩
  obtain ⟨gB, hgB⟩ : ∃ g, g = w.heap.size + 1 := ⟨_, rfl⟩
  obtain ⟨gO, hgO⟩ : ∃ g, g = w1.heap.size := ⟨_, rfl⟩
  obtain ⟨gH, hgH⟩ : ∃ g, g = w3.heap.size := ⟨_, rfl⟩
  obtain ⟨gM, hgM⟩ : ∃ g, g = w4.heap.size := ⟨_, rfl⟩
  rw [← hgB, ← hgA, ← hgO, ← hgH, ← hgM] at hLS ⊢
  clear hgA hgB hgO hgH hgM w1 w2 w3 w4
  have HLS := hid hLS
  clear hLS
  go_wp2_with fail
  refine wp_region_grow 6 [46, 47, 48, 49, 50, 51] [Fact.is (.agg #[.int .u64 al, .int .u64 ah]), Fact.is (.int .i64 (spanE al ah)), Fact.is (.agg #[.int .u64 al, .int .u64 ah]), Fact.sl [(al, ah)], Fact.is (.int .i64 (spanE al ah)), Fact.is (.bool false)] (by kernel_rfl) (by kernel_rfl) ⟨?o0, ?o1, ?o2, ?o3, ?o4, ?o5, trivial⟩ ?after
  case o0 => (refine StepOK.plain rfl ?_; intro ρ w1 R hρ hb hp hR; have e3 : ρ (.tmp 3) = .pointer (some ⟨gA, 0, none⟩) := hρ.tmp 3 rfl; obtain ⟨-, ⟨j0, j1, -, -⟩, -⟩ := HLS.out.below hb; have hcon := hρ.con; have hfn := hρ.fn; clear hρ hp; unfold OpRun; go_simp; exact hR _ _ (Below.refl _ _) rfl)
  case o1 => (refine StepOK.plain rfl ?_; intro ρ w1 R hρ hb hp hR; have e46 : ρ (.tmp 46) = _ := hp 0 46 rfl rfl; have hcon := hρ.con; have hfn := hρ.fn; clear hρ hp; unfold OpRun; go_simp; (refine (CCk.out _).mono ?_; rintro e wn ⟨rfl, hbn⟩; exact ⟨_, rfl, hR _ _ hbn rfl⟩))
  case o2 => (refine StepOK.plain rfl ?_; intro ρ w1 R hρ hb hp hR; have e3 : ρ (.tmp 3) = .pointer (some ⟨gA, 0, none⟩) := hρ.tmp 3 rfl; obtain ⟨-, ⟨j0, j1, -, -⟩, -⟩ := HLS.out.below hb; have hcon := hρ.con; have hfn := hρ.fn; clear hρ hp; unfold OpRun; go_simp; exact hR _ _ (Below.refl _ _) rfl)
  case o3 => (refine StepOK.plain rfl ?_; intro ρ w1 R hρ hb hp hR; have e48 : ρ (.tmp 48) = _ := hp 2 48 rfl rfl; have hcon := hρ.con; have hfn := hρ.fn; clear hρ hp; unfold OpRun; go_simp; exact hR _ _ (below_alloc _ _) ⟨_, _, rfl, SL.made1⟩)
  case o4 => (refine StepOK.plain rfl ?_; intro ρ w1 R hρ hb hp hR; have f49 := hp 3 49 rfl rfl; obtain ⟨gs, cs, e49, hsl⟩ := f49; simp only [List.length_cons, List.length_nil, Nat.zero_add] at e49; have hcon := hρ.con; have hfn := hρ.fn; clear hρ hp; unfold OpRun; go_simp; (refine (CS1.out _ _ _ hsl).mono ?_; rintro e wn ⟨rfl, hbn⟩; exact ⟨_, rfl, hR _ _ hbn rfl⟩))
  case o5 => (refine StepOK.plain rfl ?_; intro ρ w1 R hρ hb hp hR; have e47 : ρ (.tmp 47) = _ := hp 1 47 rfl rfl; have e50 : ρ (.tmp 50) = _ := hp 4 50 rfl rfl; have hcon := hρ.con; have hfn := hρ.fn; clear hρ hp; unfold OpRun; go_simp; exact hR _ _ (Below.refl _ _) rfl)
  case after =>
    intro u wn hb hf
    have e51 : u 51 = _ := hf 5 51 (by omega) rfl
    clear hf
    simp only [putAll, Act.put, List.setIfInBounds_toArray, List.set_cons_zero, List.set_cons_succ, List.drop_succ_cons, List.drop_zero, List.drop_nil]
    rw [e51]
    have hLS := HLS.out.below hb
    have HLS := hid hLS
    clear hLS hb CCk
    go_upto_if 54 with (go_at_call 50; refine (VH.out _).mono ?_; rintro e w' ⟨rfl, rfl⟩)
    go_cut [15] (fun _ wx => wx = wn)
    case first => as_aux_lemma =>
      obtain ⟨-, -, -, ⟨p0, p1, -, -⟩, -⟩ := HLS.out
      rcases FO.out with ⟨v, e1, e2, e3⟩ | ⟨v, e1, e2, e3⟩
      · subst v e1 e2 e3
        cases hz : zeroB x
        · have hp : plainOf x = x := by
            unfold plainOf; rw [if_neg]
            intro e; have := minus_zero x hx.1 hx.2; rw [hz, e] at this; revert this; decide
          rw [hp] at p0 p1
          clear hp FO
          go_wp2_with (go_at_call 51; refine (VZ.out _).mono ?_; rintro e w' ⟨rfl, rfl⟩)
          go_meet
          rfl
        · have hp : plainOf x = 0 := by
            unfold plainOf
            split
            · rfl
            · rename_i hne
              have h9 := (zero_iff x hx.1 hx.2).1 (by unfold zeroB at hz; simpa using hz)
              have := hx.1; have := hx.2
              unfold absOf at h9; omega
          rw [hp] at p0 p1
          clear hp FO
          go_wp2_with (go_at_call 51; refine (VZ.out _).mono ?_; rintro e w' ⟨rfl, rfl⟩)
          go_meet
          rfl
      · subst v e1 e2 e3
        clear FO
        go_wp2_with fail
        go_meet
        rfl
    case rest =>
      subst hcut
      clear VZ FO
      obtain ⟨g1, hg1⟩ : ∃ g : Bool, g = (spanB al ah && vb) := ⟨_, rfl⟩
      have HG1 := hid hg1
      clear hg1
      go_upto_region 16 with fail
      go_cut [81] (fun s wx => s = .bool g1 ∧ LS w wx gA gB gO gH gM al ah bl bh o1 o2 h1 h2 m1 m2)
      case first => as_aux_lemma =>
        obtain ⟨-, ⟨p0, p1, -, -⟩, -⟩ := HLS.out
        cases hs : spanB al ah
        · rw [spanE_false hs] at CS1
          obtain rfl : g1 = false := by rw [HG1.out, hs]; rfl
          clear hs HG1
          go_wp2_with (go_at_call 49; (with_reducible refine (CS1.out _ _ _ SL.made1).mono ?_); rintro e wk ⟨rfl, hbk⟩)
          go_meet
          exact ⟨rfl, HLS.out.below (below_trans (below_alloc _ _) hbk)⟩
        · rw [spanE_true hs] at CS1
          obtain rfl : g1 = vb := by rw [HG1.out, hs]; rfl
          clear hs HG1
          go_wp2_with (first | (go_at_call 49; (with_reducible refine (CS1.out _ _ _ SL.made1).mono ?_); rintro e wk ⟨rfl, hbk⟩) | (go_at_call 50; refine (VH.out _).mono ?_; rintro e w' ⟨rfl, rfl⟩))
          go_meet
          exact ⟨rfl, HLS.out.below (below_trans (below_alloc _ _) hbk)⟩
      case rest =>
        obtain ⟨rfl, hLS⟩ := hcut
        clear HLS
        have HLS := hid hLS
        clear hLS VH CS1
        obtain ⟨hs, hhs⟩ : ∃ g : Bool, g = (spanB al ah && valB x && (leB al x && leB x ah)) := ⟨_, rfl⟩
        have HHS := hid hhs
        clear hhs
        have hext : (75 : TypeId) ≠ 3 := by decide
        go_upto_if 81 with fail
        go_cut [16] (fun s wx => s = .bool hs ∧ LS w wx gA gB gO gH gM al ah bl bh o1 o2 h1 h2 m1 m2)
        case first => as_aux_lemma =>
          cases hgg : g1
          · have hf : hs = false := by
              have h9 := HG1.out
              rw [hgg, HVB.out] at h9
              rw [HHS.out, ← h9]; rfl
            clear hgg
            subst hf
            go_wp2_with fail
            go_meet
            exact ⟨rfl, HLS.out⟩
          · have h9 := HG1.out
            rw [hgg, HVB.out] at h9
            have hsp : spanB al ah = true := by cases hq : spanB al ah <;> rw [hq] at h9 <;> simp at h9 <;> rfl
            have hvx : valB x = true := by cases hq : valB x <;> rw [hq] at h9 <;> simp at h9 <;> rfl
            obtain ⟨_, _, _, _, c1, c2, _⟩ := spanB_facts hsp
            have n1 : nanB al = false := by unfold nanB; simpa using c1
            have n2 : nanB ah = false := by unfold nanB; simpa using c2
            have n3 : nanB x = false := by
              unfold nanB; unfold valB at hvx
              have : classOf x < 4 := by simpa using hvx
              simp; omega
            have hhe := hasB_eq x hx al ah hsp hvx
            have hhs : hs = (decide (cmpI (rankOf al) (rankOf x) ≤ 0) && decide (cmpI (rankOf x) (rankOf ah) ≤ 0)) := by rw [HHS.out, hsp, hvx, ← hhe]; rfl
            obtain ⟨p, hp⟩ : ∃ p, p = cmpI (rankOf al) (rankOf x) := ⟨_, rfl⟩
            obtain ⟨q, hq⟩ : ∃ q, q = cmpI (rankOf x) (rankOf ah) := ⟨_, rfl⟩
            have EX := hid (fun w => extOf_any x hx n3 w)
            have EA := hid (fun w => extOf_any al hal n1 w)
            have EB := hid (fun w => extOf_any ah hah n2 w)
            have EP := hid (fun W v u a b => extCmp_any v u al x hal hx n1 n3 W a b)
            have EQ := hid (fun W v u a b => extCmp_any v u x ah hx hah n3 n2 W a b)
            rw [← hp, ← hq] at hhs
            rw [← hp] at EP
            rw [← hq] at EQ
            have HS := hid hhs
            clear h9 hsp hvx c1 c2 n1 n2 n3 hhe hhs hp hq HHS HG1 hgg
            go_wp2_with fail
            refine (EX.out _).mono ?_
            rintro e w5 ⟨v5, rfl, hEx, hb5⟩
            obtain ⟨nx, ax, lx, cx, tx, wx, rfl, qx⟩ := id hEx
            have hLS := HLS.out.below hb5
            have hX : XV (w5.alloc (.cells #[.bool nx, .slice ax lx cx, .int .i64 tx, .int .i64 wx] 75)) w5.heap.size (.bool nx) (.slice ax lx cx) (.int .i64 tx) (.int .i64 wx) := XV.made
            have hLS5 := hLS.below (below_alloc w5 (.cells #[.bool nx, .slice ax lx cx, .int .i64 tx, .int .i64 wx] 75))
            have hE5 := hEx.below (below_alloc w5 (.cells #[.bool nx, .slice ax lx cx, .int .i64 tx, .int .i64 wx] 75))
            have HX := hid hX
            have HLS5 := hid hLS5
            have HE5 := hid hE5
            clear qx HLS hX hLS5 hE5 hLS hEx hb5
            go_upto_region 18 with fail
            by_cases hp0 : p ≤ 0
            · refine wp_region_grow 15 [84, 85, 86, 87, 88, 89, 90, 91, 92, 93, 94, 95, 96, 97, 16] [Fact.is (.pointer (some ⟨gA, 0, none⟩)), Fact.is (.int .u64 al), Fact.e 3 al, Fact.is (.agg #[.bool nx, .slice ax lx cx, .int .i64 tx, .int .i64 wx]), Fact.is (.int .i64 p), Fact.is (.bool true), Fact.is (.bool true), Fact.is (.agg #[.bool nx, .slice ax lx cx, .int .i64 tx, .int .i64 wx]), Fact.is (.pointer (some ⟨gA, 1, none⟩)), Fact.is (.int .u64 ah), Fact.e 3 ah, Fact.is (.int .i64 q), Fact.is (.bool (decide (q ≤ 0))), Fact.is (.bool (decide (q ≤ 0))), Fact.is (.bool (decide (q ≤ 0)))] (by kernel_rfl) (by kernel_rfl) ⟨?o0, ?o1, ?o2, ?o3, ?o4, ?o5, ?o6, ?o7, ?o8, ?o9, ?o10, ?o11, ?o12, ?o13, ?o14, trivial⟩ ?after
              case o0 => (refine StepOK.plain rfl ?_; intro ρ w1 R hρ hb hp hR; have e3 : ρ (.tmp 3) = .pointer (some ⟨gA, 0, none⟩) := hρ.tmp 3 rfl; have hcon := hρ.con; have hfn := hρ.fn; clear hρ hp; unfold OpRun; go_simp; exact hR _ _ (Below.refl _ _) rfl)
              case o1 => (refine StepOK.plain rfl ?_; intro ρ w1 R hρ hb hp hR; have e84 : ρ (.tmp 84) = _ := hp 0 84 rfl rfl; obtain ⟨-, ⟨j0, j1, -, -⟩, -⟩ := HLS5.out.below hb; have hcon := hρ.con; have hfn := hρ.fn; clear hρ hp; unfold OpRun; go_simp; exact hR _ _ (Below.refl _ _) rfl)
              case o2 => (refine StepOK.plain rfl ?_; intro ρ w1 R hρ hb hp hR; have e85 : ρ (.tmp 85) = _ := hp 1 85 rfl rfl; have hcon := hρ.con; have hfn := hρ.fn; clear hρ hp; unfold OpRun; go_simp; (refine (EA.out _).mono ?_; rintro e wn ⟨v, rfl, hE, hbn⟩; exact ⟨_, rfl, hR _ _ hbn hE⟩))
              case o3 => (refine StepOK.plain rfl ?_; intro ρ w1 R hρ hb hp hR; have e17 : ρ (.tmp 17) = .pointer (some ⟨w5.heap.size, 0, none⟩) := hρ.tmp 17 rfl; obtain ⟨j0, j1, j2, j3⟩ := HX.out.below hb; have hcon := hρ.con; have hfn := hρ.fn; clear hρ hp; unfold OpRun; go_simp; exact hR _ _ (Below.refl _ _) rfl)
              case o4 => (refine StepOK.plain rfl ?_; intro ρ w1 R hρ hb hp hR; have f86 := hp 2 86 rfl rfl; have e87 : ρ (.tmp 87) = _ := hp 3 87 rfl rfl; have hcon := hρ.con; have hfn := hρ.fn; clear hρ hp; unfold OpRun; go_simp; (refine (EP.out _ _ _ f86 (HE5.out.below hb)).mono ?_; rintro e wn ⟨rfl, hbn⟩; exact ⟨_, rfl, hR _ _ hbn rfl⟩))
              case o5 => (refine StepOK.plain rfl ?_; intro ρ w1 R hρ hb hp hR; have e88 : ρ (.tmp 88) = _ := hp 4 88 rfl rfl; have hcon := hρ.con; have hfn := hρ.fn; clear hρ hp; unfold OpRun; go_simp; exact hR _ _ (Below.refl _ _) rfl)
              case o6 => (refine StepOK.plain rfl ?_; intro ρ w1 R hρ hb hp hR; have e89 : ρ (.tmp 89) = _ := hp 5 89 rfl rfl; have hcon := hρ.con; have hfn := hρ.fn; clear hρ hp; unfold OpRun; go_simp; exact hR _ _ (Below.refl _ _) rfl)
              case o7 => (intro ρ w1 R hρ hb hp hR; have eg : ρ (.tmp 90) = .bool true := hp 6 90 rfl rfl; refine ⟨fun _ => ?_, fun hg => absurd hg (by simp [guardOf, eg])⟩; clear eg; have e17 : ρ (.tmp 17) = .pointer (some ⟨w5.heap.size, 0, none⟩) := hρ.tmp 17 rfl; obtain ⟨j0, j1, j2, j3⟩ := HX.out.below hb; have hcon := hρ.con; have hfn := hρ.fn; clear hρ hp; unfold OpRun; go_simp; exact hR _ _ (Below.refl _ _) rfl)
              case o8 => (intro ρ w1 R hρ hb hp hR; have eg : ρ (.tmp 90) = .bool true := hp 6 90 rfl rfl; refine ⟨fun _ => ?_, fun hg => absurd hg (by simp [guardOf, eg])⟩; clear eg; have e3 : ρ (.tmp 3) = .pointer (some ⟨gA, 0, none⟩) := hρ.tmp 3 rfl; have hcon := hρ.con; have hfn := hρ.fn; clear hρ hp; unfold OpRun; go_simp; exact hR _ _ (Below.refl _ _) rfl)
              case o9 => (intro ρ w1 R hρ hb hp hR; have eg : ρ (.tmp 90) = .bool true := hp 6 90 rfl rfl; refine ⟨fun _ => ?_, fun hg => absurd hg (by simp [guardOf, eg])⟩; clear eg; have e92 : ρ (.tmp 92) = _ := hp 8 92 rfl rfl; obtain ⟨-, ⟨j0, j1, -, -⟩, -⟩ := HLS5.out.below hb; have hcon := hρ.con; have hfn := hρ.fn; clear hρ hp; unfold OpRun; go_simp; exact hR _ _ (Below.refl _ _) rfl)
              case o10 => (intro ρ w1 R hρ hb hp hR; have eg : ρ (.tmp 90) = .bool true := hp 6 90 rfl rfl; refine ⟨fun _ => ?_, fun hg => absurd hg (by simp [guardOf, eg])⟩; clear eg; have e93 : ρ (.tmp 93) = _ := hp 9 93 rfl rfl; have hcon := hρ.con; have hfn := hρ.fn; clear hρ hp; unfold OpRun; go_simp; (refine (EB.out _).mono ?_; rintro e wn ⟨v, rfl, hE, hbn⟩; exact ⟨_, rfl, hR _ _ hbn hE⟩))
              case o11 => (intro ρ w1 R hρ hb hp hR; have eg : ρ (.tmp 90) = .bool true := hp 6 90 rfl rfl; refine ⟨fun _ => ?_, fun hg => absurd hg (by simp [guardOf, eg])⟩; clear eg; have e91 : ρ (.tmp 91) = _ := hp 7 91 rfl rfl; have f94 := hp 10 94 rfl rfl; have hcon := hρ.con; have hfn := hρ.fn; clear hρ hp; unfold OpRun; go_simp; (refine (EQ.out _ _ _ (HE5.out.below hb) f94).mono ?_; rintro e wn ⟨rfl, hbn⟩; exact ⟨_, rfl, hR _ _ hbn rfl⟩))
              case o12 => (intro ρ w1 R hρ hb hp hR; have eg : ρ (.tmp 90) = .bool true := hp 6 90 rfl rfl; refine ⟨fun _ => ?_, fun hg => absurd hg (by simp [guardOf, eg])⟩; clear eg; have e95 : ρ (.tmp 95) = _ := hp 11 95 rfl rfl; have hcon := hρ.con; have hfn := hρ.fn; clear hρ hp; unfold OpRun; go_simp; exact hR _ _ (Below.refl _ _) rfl)
              case o13 => (refine StepOK.plain rfl ?_; intro ρ w1 R hρ hb hp hR; have e90 : ρ (.tmp 90) = _ := hp 6 90 rfl rfl; have e96 : ρ (.tmp 96) = _ := hp 12 96 rfl rfl; have hcon := hρ.con; have hfn := hρ.fn; clear hρ hp; unfold OpRun; go_simp; exact hR _ _ (Below.refl _ _) rfl)
              case o14 => (refine StepOK.plain rfl ?_; intro ρ w1 R hρ hb hp hR; have e97 : ρ (.tmp 97) = _ := hp 13 97 rfl rfl; have hcon := hρ.con; have hfn := hρ.fn; clear hρ hp; unfold OpRun; go_simp; exact hR _ _ (Below.refl _ _) rfl)
              case after =>
                intro u wn hb hf
                have e16 : u 16 = _ := hf 14 16 (by omega) rfl
                clear hf
                simp only [putAll, Act.put, List.setIfInBounds_toArray, List.set_cons_zero, List.set_cons_succ, List.drop_succ_cons, List.drop_zero, List.drop_nil]
                rw [e16]
                go_wp2_with fail
                go_meet
                exact ⟨by rw [HS.out]; simp [hp0], HLS5.out.below hb⟩
            · refine wp_region_grow 15 [84, 85, 86, 87, 88, 89, 90, 91, 92, 93, 94, 95, 96, 97, 16] [Fact.is (.pointer (some ⟨gA, 0, none⟩)), Fact.is (.int .u64 al), Fact.e 3 al, Fact.is (.agg #[.bool nx, .slice ax lx cx, .int .i64 tx, .int .i64 wx]), Fact.is (.int .i64 p), Fact.is (.bool false), Fact.is (.bool false), Fact.any, Fact.any, Fact.any, Fact.any, Fact.any, Fact.any, Fact.is (.bool false), Fact.is (.bool false)] (by kernel_rfl) (by kernel_rfl) ⟨?o0, ?o1, ?o2, ?o3, ?o4, ?o5, ?o6, ?o7, ?o8, ?o9, ?o10, ?o11, ?o12, ?o13, ?o14, trivial⟩ ?after
              case o0 => (refine StepOK.plain rfl ?_; intro ρ w1 R hρ hb hp hR; have e3 : ρ (.tmp 3) = .pointer (some ⟨gA, 0, none⟩) := hρ.tmp 3 rfl; have hcon := hρ.con; have hfn := hρ.fn; clear hρ hp; unfold OpRun; go_simp; exact hR _ _ (Below.refl _ _) rfl)
              case o1 => (refine StepOK.plain rfl ?_; intro ρ w1 R hρ hb hp hR; have e84 : ρ (.tmp 84) = _ := hp 0 84 rfl rfl; obtain ⟨-, ⟨j0, j1, -, -⟩, -⟩ := HLS5.out.below hb; have hcon := hρ.con; have hfn := hρ.fn; clear hρ hp; unfold OpRun; go_simp; exact hR _ _ (Below.refl _ _) rfl)
              case o2 => (refine StepOK.plain rfl ?_; intro ρ w1 R hρ hb hp hR; have e85 : ρ (.tmp 85) = _ := hp 1 85 rfl rfl; have hcon := hρ.con; have hfn := hρ.fn; clear hρ hp; unfold OpRun; go_simp; (refine (EA.out _).mono ?_; rintro e wn ⟨v, rfl, hE, hbn⟩; exact ⟨_, rfl, hR _ _ hbn hE⟩))
              case o3 => (refine StepOK.plain rfl ?_; intro ρ w1 R hρ hb hp hR; have e17 : ρ (.tmp 17) = .pointer (some ⟨w5.heap.size, 0, none⟩) := hρ.tmp 17 rfl; obtain ⟨j0, j1, j2, j3⟩ := HX.out.below hb; have hcon := hρ.con; have hfn := hρ.fn; clear hρ hp; unfold OpRun; go_simp; exact hR _ _ (Below.refl _ _) rfl)
              case o4 => (refine StepOK.plain rfl ?_; intro ρ w1 R hρ hb hp hR; have f86 := hp 2 86 rfl rfl; have e87 : ρ (.tmp 87) = _ := hp 3 87 rfl rfl; have hcon := hρ.con; have hfn := hρ.fn; clear hρ hp; unfold OpRun; go_simp; (refine (EP.out _ _ _ f86 (HE5.out.below hb)).mono ?_; rintro e wn ⟨rfl, hbn⟩; exact ⟨_, rfl, hR _ _ hbn rfl⟩))
              case o5 => (refine StepOK.plain rfl ?_; intro ρ w1 R hρ hb hp hR; have e88 : ρ (.tmp 88) = _ := hp 4 88 rfl rfl; have hcon := hρ.con; have hfn := hρ.fn; clear hρ hp; unfold OpRun; go_simp; exact hR _ _ (Below.refl _ _) rfl)
              case o6 => (refine StepOK.plain rfl ?_; intro ρ w1 R hρ hb hp hR; have e89 : ρ (.tmp 89) = _ := hp 5 89 rfl rfl; have hcon := hρ.con; have hfn := hρ.fn; clear hρ hp; unfold OpRun; go_simp; exact hR _ _ (Below.refl _ _) rfl)
              case o7 => (intro ρ w1 R hρ hb hp hR; have eg : ρ (.tmp 90) = .bool false := hp 6 90 rfl rfl; exact ⟨fun hg => absurd hg (by simp [guardOf, eg]), fun _ => trivial⟩)
              case o8 => (intro ρ w1 R hρ hb hp hR; have eg : ρ (.tmp 90) = .bool false := hp 6 90 rfl rfl; exact ⟨fun hg => absurd hg (by simp [guardOf, eg]), fun _ => trivial⟩)
              case o9 => (intro ρ w1 R hρ hb hp hR; have eg : ρ (.tmp 90) = .bool false := hp 6 90 rfl rfl; exact ⟨fun hg => absurd hg (by simp [guardOf, eg]), fun _ => trivial⟩)
              case o10 => (intro ρ w1 R hρ hb hp hR; have eg : ρ (.tmp 90) = .bool false := hp 6 90 rfl rfl; exact ⟨fun hg => absurd hg (by simp [guardOf, eg]), fun _ => trivial⟩)
              case o11 => (intro ρ w1 R hρ hb hp hR; have eg : ρ (.tmp 90) = .bool false := hp 6 90 rfl rfl; exact ⟨fun hg => absurd hg (by simp [guardOf, eg]), fun _ => trivial⟩)
              case o12 => (intro ρ w1 R hρ hb hp hR; have eg : ρ (.tmp 90) = .bool false := hp 6 90 rfl rfl; exact ⟨fun hg => absurd hg (by simp [guardOf, eg]), fun _ => trivial⟩)
              case o13 => (refine StepOK.plain rfl ?_; intro ρ w1 R hρ hb hp hR; have e90 : ρ (.tmp 90) = _ := hp 6 90 rfl rfl; have f96 := hp 12 96 rfl rfl; have hcon := hρ.con; have hfn := hρ.fn; clear hρ hp; unfold OpRun; go_simp; exact hR _ _ (Below.refl _ _) rfl)
              case o14 => (refine StepOK.plain rfl ?_; intro ρ w1 R hρ hb hp hR; have e97 : ρ (.tmp 97) = _ := hp 13 97 rfl rfl; have hcon := hρ.con; have hfn := hρ.fn; clear hρ hp; unfold OpRun; go_simp; exact hR _ _ (Below.refl _ _) rfl)
              case after =>
                intro u wn hb hf
                have e16 : u 16 = _ := hf 14 16 (by omega) rfl
                clear hf
                simp only [putAll, Act.put, List.setIfInBounds_toArray, List.set_cons_zero, List.set_cons_succ, List.drop_succ_cons, List.drop_zero, List.drop_nil]
                rw [e16]
                go_wp2_with fail
                go_meet
                exact ⟨by rw [HS.out]; simp; omega, HLS5.out.below hb⟩
        case rest =>
          obtain ⟨rfl, hLS⟩ := hcut
          clear HLS HG1
          have HLS := hid hLS
          rw [hasVal_valB x hx.1 hx.2, ← HHS.out] at CHas
          clear hLS HHS HVB
          obtain ⟨-, ⟨n0, n1, -, -⟩, -⟩ := id HLS.out
          go_upto_region 21 with (go_at_call 54; (with_reducible refine (CHas.out _).mono ?_); rintro e w6 ⟨rfl, hb6⟩; have HLS6 := hid (HLS.out.below hb6); obtain ⟨-, ⟨p0, p1, -, -⟩, ⟨q0, q1, -, -⟩, -⟩ := id HLS6.out)
          go_upto_if 108 with (go_at_call 49; (with_reducible refine (CS2.out _ _ _ SL.made2).mono ?_); rintro e w7 ⟨rfl, hb7⟩; have HLS7 := hid (HLS6.out.below (below_trans (below_alloc _ _) hb7)))
          clear CHas CS2 HLS HLS6 p0 p1 q0 q1 hb6 hb7 n0 n1
          by_cases hE0 : E = 0
          · subst hE0
            obtain ⟨hsa, hsb⟩ := checkE_facts HE.out.symm
            obtain ⟨a1, a2, a3, a4, a5, a6, _⟩ := spanB_facts hsa
            obtain ⟨b1, b2, b3, b4, b5, b6, _⟩ := spanB_facts hsb
            have n1 : nanB al = false := by unfold nanB; simpa using a5
            have n2 : nanB ah = false := by unfold nanB; simpa using a6
            have n3 : nanB bl = false := by unfold nanB; simpa using b5
            have n4 : nanB bh = false := by unfold nanB; simpa using b6
            obtain ⟨p, hp⟩ : ∃ p, p = cmpI (rankOf al) (rankOf bl) := ⟨_, rfl⟩
            obtain ⟨q, hq⟩ : ∃ q, q = cmpI (rankOf ah) (rankOf bh) := ⟨_, rfl⟩
            have EA := hid (fun w => extOf_any al hal n1 w)
            have EB := hid (fun w => extOf_any ah hah n2 w)
            have EC := hid (fun w => extOf_any bl hbl n3 w)
            have ED' := hid (fun w => extOf_any bh hbh n4 w)
            have EP := hid (fun W v u a b => extCmp_any v u al bl hal hbl n1 n3 W a b)
            have EQ := hid (fun W v u a b => extCmp_any v u ah bh hah hbh n2 n4 W a b)
            rw [← hp] at EP
            rw [← hq] at EQ
            -- the hull's ends, the meet's ends
            obtain ⟨hl, hhl⟩ : ∃ v, v = if 0 < p then bl else al := ⟨_, rfl⟩
            obtain ⟨hh, hhh⟩ : ∃ v, v = if q < 0 then bh else ah := ⟨_, rfl⟩
            obtain ⟨ml, hml⟩ : ∃ v, v = if p < 0 then bl else al := ⟨_, rfl⟩
            obtain ⟨mh, hmh⟩ : ∃ v, v = if 0 < q then bh else ah := ⟨_, rfl⟩
            have e1 : minOf al bl = hl := by
              have := cmpI_gt (rankOf al) (rankOf bl)
              rw [hhl, hp]; unfold minOf; split <;> split <;> first | rfl | omega
            have e2 : maxOf ah bh = hh := by
              have := cmpI_lt (rankOf ah) (rankOf bh)
              rw [hhh, hq]; unfold maxOf; split <;> split <;> first | rfl | omega
            have e3 : maxOf al bl = ml := by
              have := cmpI_lt (rankOf al) (rankOf bl)
              rw [hml, hp]; unfold maxOf; split <;> split <;> first | rfl | omega
            have e4 : minOf ah bh = mh := by
              have := cmpI_gt (rankOf ah) (rankOf bh)
              rw [hmh, hq]; unfold minOf; split <;> split <;> first | rfl | omega
            have f1 := FH.out.1 rfl
            rw [e1, e2] at f1
            obtain ⟨f1, f2⟩ := f1
            have fm := FM.out
            rw [e3, e4] at fm
            have fme := HME.out
            rw [if_pos rfl, e3, e4] at fme
            have fw : wi = (decide (0 ≤ p) && decide (q ≤ 0)) := by
              rw [HWI.out, hp, hq]
              unfold leB
              rw [Bool.eq_iff_iff]
              simp [cmpI_ge, cmpI_le, a5, a6, b5, b6]
            have umh : U64 mh := by rw [hmh]; split <;> assumption
            have uml : U64 ml := by rw [hml]; split <;> assumption
            have fse : spanE ml mh = if leB ml mh = true then 0 else 3 := by
              unfold spanE spanB
              have : edgeB ml mh = true := by
                unfold edgeB
                simp only [decide_eq_true_eq]
                rw [hml, hmh]
                refine ⟨?_, ?_, ?_, ?_⟩ <;> split <;> assumption
              rw [this]; rfl
            have CS3 : Hid (∀ (W : World) (g c : Nat), SL W g [(ml, mh)] → Calls Try.prog 49 #[.slice (some ⟨g, 0, none⟩) 1 c] W fun e w' => e = .returned (.int .i64 (spansE [(ml, mh)])) ∧ Below W.heap.size W w') :=
              hid (fun (W : World) (g c : Nat) (h : SL W g [(ml, mh)]) => spansRight_any [(ml, mh)] (by intro j hj; simp at hj; subst hj; exact ⟨uml, umh⟩) (by simp) g c W h)
            rw [spansE_one, fse] at CS3
            subst f1 f2
            have HHL := hid hhl
            have HHH := hid hhh
            have HML := hid hml
            have HMH := hid hmh
            have HFM := hid fm
            have HFME := hid fme
            have HFW := hid fw
            clear hsa hsb a1 a2 a3 a4 a5 a6 b1 b2 b3 b4 b5 b6 n1 n2 n3 n4 hp hq e1 e2 e3 e4 fm fme fw fse hhl hhh hml hmh FH FM HME HWI HE umh uml COf CHu CMe CWi
            go_upto_region 24 with fail
            refine wp_region_grow 16 [136, 137, 138, 139, 140, 141, 142, 143, 144, 145, 146, 147, 148, 149, 19, 20] [Fact.is (.pointer (some ⟨gA, 0, none⟩)), Fact.is (.int .u64 al), Fact.e 3 al, Fact.is (.pointer (some ⟨gB, 0, none⟩)), Fact.is (.int .u64 bl), Fact.e 3 bl, Fact.is (.int .i64 p), Fact.is (.pointer (some ⟨gA, 1, none⟩)), Fact.is (.int .u64 ah), Fact.e 3 ah, Fact.is (.pointer (some ⟨gB, 1, none⟩)), Fact.is (.int .u64 bh), Fact.e 3 bh, Fact.is (.int .i64 q), Fact.is (.int .i64 p), Fact.is (.int .i64 q)] (by kernel_rfl) (by kernel_rfl) ⟨?o0, ?o1, ?o2, ?o3, ?o4, ?o5, ?o6, ?o7, ?o8, ?o9, ?o10, ?o11, ?o12, ?o13, ?o14, ?o15, trivial⟩ ?after
            case o0 => (refine StepOK.plain rfl ?_; intro ρ w1 R hρ hb hp hR; have e3 : ρ (.tmp 3) = .pointer (some ⟨gA, 0, none⟩) := hρ.tmp 3 rfl; have hcon := hρ.con; have hfn := hρ.fn; clear hρ hp; unfold OpRun; go_simp; exact hR _ _ (Below.refl _ _) rfl)
            case o1 => (refine StepOK.plain rfl ?_; intro ρ w1 R hρ hb hp hR; have e136 : ρ (.tmp 136) = _ := hp 0 136 rfl rfl; obtain ⟨-, ⟨j0, j1, -, -⟩, -⟩ := HLS7.out.below hb; have hcon := hρ.con; have hfn := hρ.fn; clear hρ hp; unfold OpRun; go_simp; exact hR _ _ (Below.refl _ _) rfl)
            case o2 => (refine StepOK.plain rfl ?_; intro ρ w1 R hρ hb hp hR; have e137 : ρ (.tmp 137) = _ := hp 1 137 rfl rfl; have hcon := hρ.con; have hfn := hρ.fn; clear hρ hp; unfold OpRun; go_simp; (refine (EA.out _).mono ?_; rintro e wn ⟨v, rfl, hE, hbn⟩; exact ⟨_, rfl, hR _ _ hbn hE⟩))
            case o3 => (refine StepOK.plain rfl ?_; intro ρ w1 R hρ hb hp hR; have e4 : ρ (.tmp 4) = .pointer (some ⟨gB, 0, none⟩) := hρ.tmp 4 rfl; have hcon := hρ.con; have hfn := hρ.fn; clear hρ hp; unfold OpRun; go_simp; exact hR _ _ (Below.refl _ _) rfl)
            case o4 => (refine StepOK.plain rfl ?_; intro ρ w1 R hρ hb hp hR; have e139 : ρ (.tmp 139) = _ := hp 3 139 rfl rfl; obtain ⟨-, -, ⟨j0, j1, -, -⟩, -⟩ := HLS7.out.below hb; have hcon := hρ.con; have hfn := hρ.fn; clear hρ hp; unfold OpRun; go_simp; exact hR _ _ (Below.refl _ _) rfl)
            case o5 => (refine StepOK.plain rfl ?_; intro ρ w1 R hρ hb hp hR; have e140 : ρ (.tmp 140) = _ := hp 4 140 rfl rfl; have hcon := hρ.con; have hfn := hρ.fn; clear hρ hp; unfold OpRun; go_simp; (refine (EC.out _).mono ?_; rintro e wn ⟨v, rfl, hE, hbn⟩; exact ⟨_, rfl, hR _ _ hbn hE⟩))
            case o6 => (refine StepOK.plain rfl ?_; intro ρ w1 R hρ hb hp hR; have f138 := hp 2 138 rfl rfl; have f141 := hp 5 141 rfl rfl; have hcon := hρ.con; have hfn := hρ.fn; clear hρ hp; unfold OpRun; go_simp; (refine (EP.out _ _ _ f138 f141).mono ?_; rintro e wn ⟨rfl, hbn⟩; exact ⟨_, rfl, hR _ _ hbn rfl⟩))
            case o7 => (refine StepOK.plain rfl ?_; intro ρ w1 R hρ hb hp hR; have e3 : ρ (.tmp 3) = .pointer (some ⟨gA, 0, none⟩) := hρ.tmp 3 rfl; have hcon := hρ.con; have hfn := hρ.fn; clear hρ hp; unfold OpRun; go_simp; exact hR _ _ (Below.refl _ _) rfl)
            case o8 => (refine StepOK.plain rfl ?_; intro ρ w1 R hρ hb hp hR; have e143 : ρ (.tmp 143) = _ := hp 7 143 rfl rfl; obtain ⟨-, ⟨j0, j1, -, -⟩, -⟩ := HLS7.out.below hb; have hcon := hρ.con; have hfn := hρ.fn; clear hρ hp; unfold OpRun; go_simp; exact hR _ _ (Below.refl _ _) rfl)
            case o9 => (refine StepOK.plain rfl ?_; intro ρ w1 R hρ hb hp hR; have e144 : ρ (.tmp 144) = _ := hp 8 144 rfl rfl; have hcon := hρ.con; have hfn := hρ.fn; clear hρ hp; unfold OpRun; go_simp; (refine (EB.out _).mono ?_; rintro e wn ⟨v, rfl, hE, hbn⟩; exact ⟨_, rfl, hR _ _ hbn hE⟩))
            case o10 => (refine StepOK.plain rfl ?_; intro ρ w1 R hρ hb hp hR; have e4 : ρ (.tmp 4) = .pointer (some ⟨gB, 0, none⟩) := hρ.tmp 4 rfl; have hcon := hρ.con; have hfn := hρ.fn; clear hρ hp; unfold OpRun; go_simp; exact hR _ _ (Below.refl _ _) rfl)
            case o11 => (refine StepOK.plain rfl ?_; intro ρ w1 R hρ hb hp hR; have e146 : ρ (.tmp 146) = _ := hp 10 146 rfl rfl; obtain ⟨-, -, ⟨j0, j1, -, -⟩, -⟩ := HLS7.out.below hb; have hcon := hρ.con; have hfn := hρ.fn; clear hρ hp; unfold OpRun; go_simp; exact hR _ _ (Below.refl _ _) rfl)
            case o12 => (refine StepOK.plain rfl ?_; intro ρ w1 R hρ hb hp hR; have e147 : ρ (.tmp 147) = _ := hp 11 147 rfl rfl; have hcon := hρ.con; have hfn := hρ.fn; clear hρ hp; unfold OpRun; go_simp; (refine (ED'.out _).mono ?_; rintro e wn ⟨v, rfl, hE, hbn⟩; exact ⟨_, rfl, hR _ _ hbn hE⟩))
            case o13 => (refine StepOK.plain rfl ?_; intro ρ w1 R hρ hb hp hR; have f145 := hp 9 145 rfl rfl; have f148 := hp 12 148 rfl rfl; have hcon := hρ.con; have hfn := hρ.fn; clear hρ hp; unfold OpRun; go_simp; (refine (EQ.out _ _ _ f145 f148).mono ?_; rintro e wn ⟨rfl, hbn⟩; exact ⟨_, rfl, hR _ _ hbn rfl⟩))
            case o14 => (refine StepOK.plain rfl ?_; intro ρ w1 R hρ hb hp hR; have e142 : ρ (.tmp 142) = _ := hp 6 142 rfl rfl; have hcon := hρ.con; have hfn := hρ.fn; clear hρ hp; unfold OpRun; go_simp; exact hR _ _ (Below.refl _ _) rfl)
            case o15 => (refine StepOK.plain rfl ?_; intro ρ w1 R hρ hb hp hR; have e149 : ρ (.tmp 149) = _ := hp 13 149 rfl rfl; have hcon := hρ.con; have hfn := hρ.fn; clear hρ hp; unfold OpRun; go_simp; exact hR _ _ (Below.refl _ _) rfl)
            case after =>
              intro u wn hb hf
              have e19 : u 19 = _ := hf 14 19 (by omega) rfl
              have e20 : u 20 = _ := hf 15 20 (by omega) rfl
              clear hf
              simp only [putAll, Act.put, List.setIfInBounds_toArray, List.set_cons_zero, List.set_cons_succ, List.drop_succ_cons, List.drop_zero, List.drop_nil]
              rw [e19, e20]
              have HLS8 := hid (HLS7.out.below hb)
              clear HLS7 hb EA EB EC ED' EP EQ
              go_upto_region 25 with fail
              obtain ⟨-, ⟨j0, j1, -, -⟩, -⟩ := id HLS8.out
              obtain ⟨l1, l2, l3, l4, l5⟩ := HLS8.out.lts
              have lw := HLS8.out.1.size
              go_cut [21, 22] (fun s21 s22 wx => ∃ g g' : Nat, s21 = .pointer (some ⟨g, 0, none⟩) ∧ s22 = .pointer (some ⟨g', 0, none⟩) ∧ wn.heap.size ≤ g ∧ wn.heap.size ≤ g' ∧ g ≠ g' ∧ LQ w wx gA gB gO gH gM g g' al ah bl bh o1 o2 h1 h2 m1 m2 al ah al ah)
              case first => as_aux_lemma =>
                clear HHL HHH HML HMH HFM HFME HFW CS3
                go_region
                all_goals
                  go_wp2_with fail
                  go_meet
                  first
                    | exact ⟨_, _, rfl, rfl, by omega, by omega, by omega, HLS8.out.below (by (repeat' (first | (with_reducible assumption) | (with_reducible exact Below.refl _ _) | (with_reducible refine below_al ?_ _) | (with_reducible refine below_drewN ?_ _) | (with_reducible refine Below.drew ?_) | (with_reducible refine Below.alloc ?_ ?_ _) | (with_reducible refine Below.setCell ?_ ?_ _) | (refine below_trans ?_ (by assumption)) | go_size))), ((SV.made rfl).alloc _).drew, (SV.made (by simp)).drew⟩
                    | exact ⟨_, _, rfl, rfl, by omega, by omega, by omega, HLS8.out.below (by (repeat' (first | (with_reducible assumption) | (with_reducible exact Below.refl _ _) | (with_reducible refine below_al ?_ _) | (with_reducible refine below_drewN ?_ _) | (with_reducible refine Below.drew ?_) | (with_reducible refine Below.alloc ?_ ?_ _) | (with_reducible refine Below.setCell ?_ ?_ _) | (refine below_trans ?_ (by assumption)) | go_size))), (SV.made (by simp)).drew, ((SV.made rfl).alloc _).drew⟩
              case rest =>
                obtain ⟨g, g', rfl, rfl, hg, hg', hne, hT⟩ := hcut
                have HT := hid hT
                have hgw : w.heap.size ≤ g ∧ w.heap.size ≤ g' := ⟨by omega, by omega⟩
                have hA : gA ≠ g ∧ gB ≠ g ∧ gO ≠ g ∧ gH ≠ g ∧ gM ≠ g := ⟨by omega, by omega, by omega, by omega, by omega⟩
                have hB : gA ≠ g' ∧ gB ≠ g' ∧ gO ≠ g' ∧ gH ≠ g' ∧ gM ≠ g' := ⟨by omega, by omega, by omega, by omega, by omega⟩
                clear HLS8 hT j0 j1 l1 l2 l3 l4 l5 lw hg hg'
                go_upto_if 153 with fail
                go_cut [] (fun wx => LQ w wx gA gB gO gH gM g g' al ah bl bh o1 o2 h1 h2 m1 m2 h1 ah al ah)
                case first => as_aux_lemma =>
                  obtain ⟨⟨-, -, ⟨y0, y1, -, -⟩, -⟩, ⟨i0, i1, i2, i3⟩, ⟨i4, i5, i6, i7⟩⟩ := id HT.out
                  by_cases hc : 0 < p
                  · have e := HHL.out
                    rw [if_pos hc] at e
                    have hT := HT.out
                    clear HHL HHH HML HMH HFM HFME HFW CS3
                    go_wp2_with fail
                    go_meet
                    rw [e] at hT ⊢
                    exact (hT.set hgw hA hB hne bl).1
                  · have e := HHL.out
                    rw [if_neg hc] at e
                    have hT := HT.out
                    clear HHL HHH HML HMH HFM HFME HFW CS3
                    go_wp2_with fail
                    go_meet
                    rw [e] at hT ⊢
                    exact hT
                case rest =>
                have HTa := hid hcut
                clear hcut HT
                go_upto_if 158 with fail
                go_cut [] (fun wx => LQ w wx gA gB gO gH gM g g' al ah bl bh o1 o2 h1 h2 m1 m2 h1 ah ml ah)
                case first => as_aux_lemma =>
                  obtain ⟨⟨-, -, ⟨y0, y1, -, -⟩, -⟩, ⟨i0, i1, i2, i3⟩, ⟨i4, i5, i6, i7⟩⟩ := id HTa.out
                  by_cases hc : p < 0
                  · have e := HML.out
                    rw [if_pos hc] at e
                    have hT := HTa.out
                    clear HHL HHH HML HMH HFM HFME HFW CS3
                    go_wp2_with fail
                    go_meet
                    rw [e] at ⊢
                    exact (hT.set hgw hA hB hne bl).2.2.1
                  · have e := HML.out
                    rw [if_neg hc] at e
                    have hT := HTa.out
                    clear HHL HHH HML HMH HFM HFME HFW CS3
                    go_wp2_with fail
                    go_meet
                    rw [e] at ⊢
                    exact hT
                case rest =>
                have HTb := hid hcut
                clear hcut HTa
                go_upto_if 163 with fail
                go_cut [] (fun wx => LQ w wx gA gB gO gH gM g g' al ah bl bh o1 o2 h1 h2 m1 m2 h1 h2 ml ah)
                case first => as_aux_lemma =>
                  obtain ⟨⟨-, -, ⟨y0, y1, -, -⟩, -⟩, ⟨i0, i1, i2, i3⟩, ⟨i4, i5, i6, i7⟩⟩ := id HTb.out
                  by_cases hc : q < 0
                  · have e := HHH.out
                    rw [if_pos hc] at e
                    have hT := HTb.out
                    clear HHL HHH HML HMH HFM HFME HFW CS3
                    go_wp2_with fail
                    go_meet
                    rw [e] at hT ⊢
                    exact (hT.set hgw hA hB hne bh).2.1
                  · have e := HHH.out
                    rw [if_neg hc] at e
                    have hT := HTb.out
                    clear HHL HHH HML HMH HFM HFME HFW CS3
                    go_wp2_with fail
                    go_meet
                    rw [e] at hT ⊢
                    exact hT
                case rest =>
                have HTc := hid hcut
                clear hcut HTb
                go_upto_if 168 with fail
                go_cut [] (fun wx => LQ w wx gA gB gO gH gM g g' al ah bl bh o1 o2 h1 h2 m1 m2 h1 h2 ml mh)
                case first => as_aux_lemma =>
                  obtain ⟨⟨-, -, ⟨y0, y1, -, -⟩, -⟩, ⟨i0, i1, i2, i3⟩, ⟨i4, i5, i6, i7⟩⟩ := id HTc.out
                  by_cases hc : 0 < q
                  · have e := HMH.out
                    rw [if_pos hc] at e
                    have hT := HTc.out
                    clear HHL HHH HML HMH HFM HFME HFW CS3
                    go_wp2_with fail
                    go_meet
                    rw [e] at ⊢
                    exact (hT.set hgw hA hB hne bh).2.2.2
                  · have e := HMH.out
                    rw [if_neg hc] at e
                    have hT := HTc.out
                    clear HHL HHH HML HMH HFM HFME HFW CS3
                    go_wp2_with fail
                    go_meet
                    rw [e] at ⊢
                    exact hT
                case rest =>
                have HTd := hid hcut
                clear hcut HTc
                go_upto_region 34 with fail
                obtain ⟨⟨yb, -, -, -, ⟨r0, r1, -, -⟩, ⟨s0, s1, -, -⟩⟩, ⟨i0, i1, i2, i3⟩, ⟨i4, i5, i6, i7⟩⟩ := id HTd.out
                have Hyb := hid yb
                clear yb
                go_cut [192] (fun s wx => s = .bool false ∧ wx = wc)
                case first => as_aux_lemma =>
                  clear CS3 HFM HFME
                  by_cases hp : 0 ≤ p <;> by_cases hq : q ≤ 0
                  all_goals
                    have e := HFW.out
                    simp [hp, hq] at e
                    subst e
                    clear HFW HHL HHH HML HMH
                    go_wp2_with fail
                    go_meet
                    exact ⟨rfl, rfl⟩
                case rest =>
                  obtain ⟨rfl, rfl⟩ := hcut
                  clear HFW HHL HHH HML HMH
                  cases hle : leB ml mh
                  · as_aux_lemma =>
                    rw [hle] at CS3
                    have e := HFME.out
                    rw [hle] at e
                    obtain ⟨e1, e2⟩ := HFM.out.2 (by rw [hle]; simp)
                    simp at e
                    subst e e1 e2
                    clear HFM HFME hle
                    go_wp2_with (go_at_call 49; (with_reducible refine (CS3.out _ _ _ SL.made1).mono ?_); rintro e w9 ⟨rfl, hb9⟩; obtain ⟨⟨yb, -, -, -, ⟨r0, r1, -, -⟩, ⟨s0, s1, -, -⟩⟩, ⟨i0, i1, i2, i3⟩, ⟨i4, i5, i6, i7⟩⟩ := id (HTd.out.below (below_trans (below_alloc _ _) hb9)))
                    go_ret
                    exact ⟨rfl, yb⟩
                  · as_aux_lemma =>
                    rw [hle] at CS3
                    have e := HFME.out
                    rw [hle] at e
                    obtain ⟨e1, e2⟩ := HFM.out.1 ⟨rfl, hle⟩
                    simp at e
                    subst e e1 e2
                    clear HFM HFME hle
                    go_wp2_with (go_at_call 49; (with_reducible refine (CS3.out _ _ _ SL.made1).mono ?_); rintro e w9 ⟨rfl, hb9⟩; obtain ⟨⟨yb, -, -, -, ⟨r0, r1, -, -⟩, ⟨s0, s1, -, -⟩⟩, ⟨i0, i1, i2, i3⟩, ⟨i4, i5, i6, i7⟩⟩ := id (HTd.out.below (below_trans (below_alloc _ _) hb9)))
                    go_ret
                    exact ⟨rfl, yb⟩
          · as_aux_lemma =>
            have hEb : (E == 0) = false := by simpa using hE0
            have hEn : (E != 0) = true := by simpa using hE0
            have hw : wi = false := by rw [HWI.out]; simp [hE0]
            have hm : me = E := by rw [HME.out, if_neg hE0]
            obtain ⟨e1, e2⟩ := FH.out.2 hE0
            obtain ⟨e3, e4⟩ := FM.out.2 (fun h => hE0 h.1)
            subst hw hm e1 e2 e3 e4
            obtain ⟨yb, -, -, -, ⟨r0, r1, -, -⟩, ⟨s0, s1, -, -⟩⟩ := HLS7.out
            clear FH FM HWI HME HE COf CHu CMe CWi hE0
            go_wp2_with fail
            go_ret
            exact ⟨rfl, yb⟩
end Go.Proofs.Ytdoiobdomngccaa
