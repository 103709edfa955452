/- SpanSums: what the proof leans on, part 28 (Ss23). -/
import Derived.Test.YtfphmlmgjhebjaaGreatDoorKSpanSums10
import Derived.Test.YtfphmlmgjhebjaaGreatDoorKSpanSums27
set_option linter.unusedVariables false
set_option linter.unusedSimpArgs false
namespace Go.Proofs.YtfphmlmgjhebjaaGreatDoor
open Go.RowKit Go.Ulp
set_option linter.unusedVariables false
set_option linter.unusedSimpArgs false
set_option maxHeartbeats 40000000
set_option maxRecDepth 100000
theorem two_cells {c : Prop} [Decidable c] (a b a' b' : Int) : ∃ x y : Int, (if c then (#[.int .u64 a, .int .u64 b] : Array Value) else #[.int .u64 a', .int .u64 b']) = #[.int .u64 x, .int .u64 y] := by
  split
  · exact ⟨_, _, rfl⟩
  · exact ⟨_, _, rfl⟩
theorem spanSums_nat (l h m i : Nat) (hl : l < 18446744073709551616) (hh : h < 18446744073709551616) (hm : m < 18446744073709551616) (hi : i < 18446744073709551616) (w : World) (hT : Tab 1 w) :
    Calls Tryz.prog 3 #[.agg #[.int .u64 (l : Int), .int .u64 (h : Int)], .agg #[.int .u64 (m : Int), .int .u64 (i : Int)]] w fun e w' => e = .returned (.bool true) ∧ Below w.heap.size w w' := by
  have CA := hid (fun w t => spanAdd_any l h m i hl hh hm hi w t)
  have CS := hid (fun w t => spanSub_any l h m i hl hh hm hi w t)
  have CM := hid (fun w t => spanMul_any l h m i hl hh hm hi w t)
  have CD := hid (fun w t => spanDiv_any l h m i hl hh hm hi w t)
  obtain ⟨s1, s2, hs⟩ : ∃ x y : Int, addV l h m i = #[.int .u64 x, .int .u64 y] := by unfold addV; exact two_cells _ _ _ _
  obtain ⟨d1, d2, hd⟩ : ∃ x y : Int, subV l h m i = #[.int .u64 x, .int .u64 y] := by
    unfold subV; split
    · unfold addV; exact two_cells _ _ _ _
    · exact ⟨_, _, rfl⟩
  obtain ⟨p1, p2, hp⟩ : ∃ x y : Int, mulV l h m i = #[.int .u64 x, .int .u64 y] := by unfold mulV; exact two_cells _ _ _ _
  obtain ⟨q1, q2, hq⟩ : ∃ x y : Int, divV l h m i = #[.int .u64 x, .int .u64 y] := by unfold divV; exact two_cells _ _ _ _
  rw [hs] at CA
  rw [hd] at CS
  rw [hp] at CM
  rw [hq] at CD
  obtain ⟨E, hE⟩ : ∃ E, E = checkE (l : Int) (h : Int) (m : Int) (i : Int) := ⟨_, rfl⟩
  obtain ⟨F, hF⟩ : ∃ F, F = subE l h m i := ⟨_, rfl⟩
  obtain ⟨G, hG⟩ : ∃ G, G = divE l h m i := ⟨_, rfl⟩
  have CS2 : Hid (∀ (W : World) (g c : Nat), SL W g [((l : Int), (h : Int)), ((m : Int), (i : Int))] → Calls Tryz.prog 11 #[.slice (some ⟨g, 0, none⟩) 2 c] W (fun e w' => e = .returned (.int .i64 (spansE [((l : Int), (h : Int)), ((m : Int), (i : Int))])) ∧ Below W.heap.size W w')) :=
    hid (fun (W : World) (g c : Nat) (hs : SL W g [((l : Int), (h : Int)), ((m : Int), (i : Int))]) => spansRight_any [((l : Int), (h : Int)), ((m : Int), (i : Int))] (by intro j hj; rcases (show j = 0 ∨ j = 1 by simp at hj; omega) with e | e <;> subst e; exact ⟨u64N hl, u64N hh⟩; exact ⟨u64N hm, u64N hi⟩) (by simp) g c W hs)
  rw [spansE_two, ← hE] at CS2
  rw [← hE] at CA CM
  rw [← hF] at CS
  rw [← hG] at CD
  have HN := hid (fun e : E = 0 => check_n hl hh hm hi (hE.symm.trans e))
  have HZ := hid (fun e : E ≠ 0 => show (s1 = 0 ∧ s2 = 0) ∧ (d1 = 0 ∧ d2 = 0) ∧ (p1 = 0 ∧ p2 = 0) ∧ (q1 = 0 ∧ q2 = 0) ∧ F = E ∧ G = E by
    have hn : ¬ checkE (l : Int) (h : Int) (m : Int) (i : Int) = 0 := fun k => e (hE.trans k)
    have k1 := hs; unfold addV at k1; rw [if_neg hn] at k1
    have k2 := hd; unfold subV at k2; rw [if_neg hn] at k2
    have k3 := hp; unfold mulV at k3; rw [if_neg hn] at k3
    have hG2 : divE l h m i = checkE (l : Int) (h : Int) (m : Int) (i : Int) := by unfold divE; rw [if_neg hn]
    have k4 := hq; unfold divV at k4; rw [hG2, if_neg hn] at k4
    have hF2 : subE l h m i = checkE (l : Int) (h : Int) (m : Int) (i : Int) := by unfold subE; rw [if_neg hn]
    simp at k1 k2 k3 k4
    exact ⟨⟨k1.1.symm, k1.2.symm⟩, ⟨k2.1.symm, k2.2.symm⟩, ⟨k3.1.symm, k3.2.symm⟩, ⟨k4.1.symm, k4.2.symm⟩, by rw [hF, hF2, hE], by rw [hG, hG2, hE]⟩)
  have HT := hid hT
  have HV := hid (And.intro hs (And.intro hd (And.intro hp (And.intro hq (And.intro hF hG)))))
  have HB := hid (And.intro hl (And.intro hh (And.intro hm hi)))
  clear hs hd hp hq hE hF hG hT hl hh hm hi
  go_enter Tryz.func3, Tryz.ntmps3
  go_wp2_with fail
  have yA : SV ((w.alloc (.cells #[.int .u64 (l : Int), .int .u64 (h : Int)] 24)).alloc (.cells #[.int .u64 (m : Int), .int .u64 (i : Int)] 24)) w.heap.size (l : Int) (h : Int) := (SV.made rfl).alloc _
  have yB : SV ((w.alloc (.cells #[.int .u64 (l : Int), .int .u64 (h : Int)] 24)).alloc (.cells #[.int .u64 (m : Int), .int .u64 (i : Int)] 24)) (w.heap.size + 1) (m : Int) (i : Int) := SV.made (by first | omega | (simp; done) | (simp; omega))
  refine (CA.out _ (HT.out.below (by (repeat' (first | (with_reducible assumption) | (with_reducible exact Below.refl _ _) | (with_reducible refine below_al ?_ _) | (with_reducible refine below_drewN ?_ _) | (with_reducible refine Below.drew ?_) | (with_reducible refine Below.alloc ?_ ?_ _) | (with_reducible refine Below.setCell ?_ ?_ _) | (refine below_trans ?_ (by assumption)) | go_size))))).mono ?_
  rintro e w1 ⟨rfl, hb1⟩
  have yb1 : Below w.heap.size w w1 := by (repeat' (first | (with_reducible assumption) | (with_reducible exact Below.refl _ _) | (with_reducible refine below_al ?_ _) | (with_reducible refine below_drewN ?_ _) | (with_reducible refine Below.drew ?_) | (with_reducible refine Below.alloc ?_ ?_ _) | (with_reducible refine Below.setCell ?_ ?_ _) | (refine below_trans ?_ (by assumption)) | go_size))
  have zA1 := (yA.below hb1).alloc (.cells #[.int .u64 s1, .int .u64 s2] 24)
  have zB1 := (yB.below hb1).alloc (.cells #[.int .u64 s1, .int .u64 s2] 24)
  have zS1 : SV (w1.alloc (.cells #[.int .u64 s1, .int .u64 s2] 24)) w1.heap.size s1 s2 := SV.made rfl
  clear yA yB hb1
  obtain ⟨ka0, ka1, -, -⟩ := id zA1
  obtain ⟨kb0, kb1, -, -⟩ := id zB1
  go_wp2_with fail
  refine (CS.out _ (HT.out.below (by (repeat' (first | (with_reducible assumption) | (with_reducible exact Below.refl _ _) | (with_reducible refine below_al ?_ _) | (with_reducible refine below_drewN ?_ _) | (with_reducible refine Below.drew ?_) | (with_reducible refine Below.alloc ?_ ?_ _) | (with_reducible refine Below.setCell ?_ ?_ _) | (refine below_trans ?_ (by assumption)) | go_size))))).mono ?_
  rintro e w2 ⟨rfl, hb2⟩
  have yb2 : Below w.heap.size w w2 := by (repeat' (first | (with_reducible assumption) | (with_reducible exact Below.refl _ _) | (with_reducible refine below_al ?_ _) | (with_reducible refine below_drewN ?_ _) | (with_reducible refine Below.drew ?_) | (with_reducible refine Below.alloc ?_ ?_ _) | (with_reducible refine Below.setCell ?_ ?_ _) | (refine below_trans ?_ (by assumption)) | go_size))
  have zA2 := (zA1.below hb2).alloc (.cells #[.int .u64 d1, .int .u64 d2] 24)
  have zB2 := (zB1.below hb2).alloc (.cells #[.int .u64 d1, .int .u64 d2] 24)
  have zS2 := (zS1.below hb2).alloc (.cells #[.int .u64 d1, .int .u64 d2] 24)
  have zD2 : SV (w2.alloc (.cells #[.int .u64 d1, .int .u64 d2] 24)) w2.heap.size d1 d2 := SV.made rfl
  clear zA1 zB1 zS1 hb2 ka0 ka1 kb0 kb1 yb1
  obtain ⟨ka0, ka1, -, -⟩ := id zA2
  obtain ⟨kb0, kb1, -, -⟩ := id zB2
  go_wp2_with fail
  refine (CM.out _ (HT.out.below (by (repeat' (first | (with_reducible assumption) | (with_reducible exact Below.refl _ _) | (with_reducible refine below_al ?_ _) | (with_reducible refine below_drewN ?_ _) | (with_reducible refine Below.drew ?_) | (with_reducible refine Below.alloc ?_ ?_ _) | (with_reducible refine Below.setCell ?_ ?_ _) | (refine below_trans ?_ (by assumption)) | go_size))))).mono ?_
  rintro e w3 ⟨rfl, hb3⟩
  have yb3 : Below w.heap.size w w3 := by (repeat' (first | (with_reducible assumption) | (with_reducible exact Below.refl _ _) | (with_reducible refine below_al ?_ _) | (with_reducible refine below_drewN ?_ _) | (with_reducible refine Below.drew ?_) | (with_reducible refine Below.alloc ?_ ?_ _) | (with_reducible refine Below.setCell ?_ ?_ _) | (refine below_trans ?_ (by assumption)) | go_size))
  have zA3 := (zA2.below hb3).alloc (.cells #[.int .u64 p1, .int .u64 p2] 24)
  have zB3 := (zB2.below hb3).alloc (.cells #[.int .u64 p1, .int .u64 p2] 24)
  have zS3 := (zS2.below hb3).alloc (.cells #[.int .u64 p1, .int .u64 p2] 24)
  have zD3 := (zD2.below hb3).alloc (.cells #[.int .u64 p1, .int .u64 p2] 24)
  have zP3 : SV (w3.alloc (.cells #[.int .u64 p1, .int .u64 p2] 24)) w3.heap.size p1 p2 := SV.made rfl
  clear zA2 zB2 zS2 zD2 hb3 ka0 ka1 kb0 kb1 yb2
  obtain ⟨ka0, ka1, -, -⟩ := id zA3
  obtain ⟨kb0, kb1, -, -⟩ := id zB3
  go_wp2_with fail
  refine (CD.out _ (HT.out.below (by (repeat' (first | (with_reducible assumption) | (with_reducible exact Below.refl _ _) | (with_reducible refine below_al ?_ _) | (with_reducible refine below_drewN ?_ _) | (with_reducible refine Below.drew ?_) | (with_reducible refine Below.alloc ?_ ?_ _) | (with_reducible refine Below.setCell ?_ ?_ _) | (refine below_trans ?_ (by assumption)) | go_size))))).mono ?_
  rintro e w4 ⟨rfl, hb4⟩
  have yb4 : Below w.heap.size w w4 := by (repeat' (first | (with_reducible assumption) | (with_reducible exact Below.refl _ _) | (with_reducible refine below_al ?_ _) | (with_reducible refine below_drewN ?_ _) | (with_reducible refine Below.drew ?_) | (with_reducible refine Below.alloc ?_ ?_ _) | (with_reducible refine Below.setCell ?_ ?_ _) | (refine below_trans ?_ (by assumption)) | go_size))
  have zA4 := (zA3.below hb4).alloc (.cells #[.int .u64 q1, .int .u64 q2] 24)
  have zB4 := (zB3.below hb4).alloc (.cells #[.int .u64 q1, .int .u64 q2] 24)
  have zS4 := (zS3.below hb4).alloc (.cells #[.int .u64 q1, .int .u64 q2] 24)
  have zD4 := (zD3.below hb4).alloc (.cells #[.int .u64 q1, .int .u64 q2] 24)
  have zP4 := (zP3.below hb4).alloc (.cells #[.int .u64 q1, .int .u64 q2] 24)
  have zQ4 : SV (w4.alloc (.cells #[.int .u64 q1, .int .u64 q2] 24)) w4.heap.size q1 q2 := SV.made rfl
  have ms0 : MS w (w4.alloc (.cells #[.int .u64 q1, .int .u64 q2] 24)) w1.heap.size w2.heap.size w3.heap.size w4.heap.size s1 s2 d1 d2 p1 p2 q1 q2 := ⟨by (repeat' (first | (with_reducible assumption) | (with_reducible exact Below.refl _ _) | (with_reducible refine below_al ?_ _) | (with_reducible refine below_drewN ?_ _) | (with_reducible refine Below.drew ?_) | (with_reducible refine Below.alloc ?_ ?_ _) | (with_reducible refine Below.setCell ?_ ?_ _) | (refine below_trans ?_ (by assumption)) | go_size)), zS4, zD4, zP4, zQ4⟩
  clear zA3 zB3 zS3 zD3 zP3 zS4 zD4 zP4 zQ4 hb4 ka0 ka1 kb0 kb1 yb3 yb4
  go_upto_region 5 with fail
  refine wp_worldS (fun W => MS w W w1.heap.size w2.heap.size w3.heap.size w4.heap.size s1 s2 d1 d2 p1 p2 q1 q2 ∧ SV W w.heap.size (l : Int) (h : Int) ∧ SV W (w.heap.size + 1) (m : Int) (i : Int)) ⟨ms0, zA4, zB4⟩ ?_
  intro W0 ⟨ms, zA, zB⟩
  clear ms0 zA4 zB4
  obtain ⟨gA, hgA⟩ : ∃ g, g = w.heap.size := ⟨_, rfl⟩
  obtain ⟨gB, hgB⟩ : ∃ g, g = w.heap.size + 1 := ⟨_, rfl⟩
  obtain ⟨gS, hgS⟩ : ∃ g, g = w1.heap.size := ⟨_, rfl⟩
  obtain ⟨gD, hgD⟩ : ∃ g, g = w2.heap.size := ⟨_, rfl⟩
  obtain ⟨gP, hgP⟩ : ∃ g, g = w3.heap.size := ⟨_, rfl⟩
  obtain ⟨gQ, hgQ⟩ : ∃ g, g = w4.heap.size := ⟨_, rfl⟩
  rw [← hgS, ← hgD, ← hgP, ← hgQ] at ms ⊢
  rw [← hgB] at zB ⊢
  rw [← hgA] at zA ⊢
  clear hgA hgB hgS hgD hgP hgQ w1 w2 w3 w4
  have HMS := hid ms
  have HAB := hid (And.intro zA zB)
  obtain ⟨ka0, ka1, -, -⟩ := id zA
  obtain ⟨kb0, kb1, -, -⟩ := id zB
  clear ms zA zB CA CS CM CD
  go_upto_if 63 with (go_at_call 11; (with_reducible refine (CS2.out _ _ _ SL.made2).mono ?_); rintro e w7 ⟨rfl, hb7⟩; have HMS7 := hid (HMS.out.below (below_trans (below_alloc _ _) hb7)); have HAB7 := hid (And.intro (HAB.out.1.below (below_trans (below_alloc _ _) hb7)) (HAB.out.2.below (below_trans (below_alloc _ _) hb7))))
  clear HMS HAB ka0 ka1 kb0 kb1 hb7 CS2
  obtain ⟨W, hW⟩ : ∃ W, W = w7 := ⟨_, rfl⟩
  subst hW
  by_cases h0 : E = 0
  case neg =>
    have b1 : (E != 0) = true := by simpa using h0
    obtain ⟨⟨rfl, rfl⟩, ⟨rfl, rfl⟩, ⟨rfl, rfl⟩, ⟨rfl, rfl⟩, eF, eG⟩ := HZ.out h0
    subst eF eG
    obtain ⟨y0, ⟨s0, s1, -, -⟩, ⟨d0, d1, -, -⟩, ⟨p0, p1, -, -⟩, ⟨q0, q1, -, -⟩⟩ := id HMS7.out
    clear HZ HN HV HT HB HAB7 HMS7
    go_wp2_with fail
    go_ret
    exact ⟨rfl, y0⟩
  case pos =>
    subst h0
    obtain ⟨na, nb⟩ := HN.out rfl
    clear HZ HN
    have AD := add_says na nb
    have SU := sub_says na nb
    have MU := mul_says na nb
    have DI := div_says na nb
    obtain ⟨v1, v2, v3, v4, v5, v6⟩ := HV.out
    rw [v1] at AD
    rw [v2, ← v5] at SU
    rw [v3] at MU
    rw [v4, ← v6] at DI
    obtain ⟨SU, hF0⟩ := SU
    subst hF0
    have un : ∀ x : Nat, EndN x → U64 (x : Int) ∧ nanB (x : Int) = false := fun x hx => ⟨⟨by omega, by have := hx.1; omega⟩, by unfold nanB; exact decide_eq_false hx.2.1⟩
    have EO1 := hid (fun w => extOfX_any (l : Int) (un l na.1).1 (un l na.1).2 w)
    have EO2 := hid (fun w => extOfX_any (h : Int) (un h na.2.1).1 (un h na.2.1).2 w)
    have EO3 := hid (fun w => extOfX_any (m : Int) (un m nb.1).1 (un m nb.1).2 w)
    have EO4 := hid (fun w => extOfX_any (i : Int) (un i nb.2.1).1 (un i nb.2.1).2 w)
    have hMR : mRow l h m i = [(mulW (exP (l : Int)).1 (exP (l : Int)).2 (exP (m : Int)).1 (exP (m : Int)).2, mulE (exP (l : Int)).1 (exP (l : Int)).2 (exP (m : Int)).1 (exP (m : Int)).2), (mulW (exP (l : Int)).1 (exP (l : Int)).2 (exP (i : Int)).1 (exP (i : Int)).2, mulE (exP (l : Int)).1 (exP (l : Int)).2 (exP (i : Int)).1 (exP (i : Int)).2),
      (mulW (exP (h : Int)).1 (exP (h : Int)).2 (exP (m : Int)).1 (exP (m : Int)).2, mulE (exP (h : Int)).1 (exP (h : Int)).2 (exP (m : Int)).1 (exP (m : Int)).2), (mulW (exP (h : Int)).1 (exP (h : Int)).2 (exP (i : Int)).1 (exP (i : Int)).2, mulE (exP (h : Int)).1 (exP (h : Int)).2 (exP (i : Int)).1 (exP (i : Int)).2)] := rfl
    have hQR : ∀ mode, qRow l h m i mode = [exP (qeX (exP (l : Int)).1 (exP (l : Int)).2 (exP (m : Int)).1 (exP (m : Int)).2 mode), exP (qeX (exP (l : Int)).1 (exP (l : Int)).2 (exP (i : Int)).1 (exP (i : Int)).2 mode), exP (qeX (exP (h : Int)).1 (exP (h : Int)).2 (exP (m : Int)).1 (exP (m : Int)).2 mode), exP (qeX (exP (h : Int)).1 (exP (h : Int)).2 (exP (i : Int)).1 (exP (i : Int)).2 mode)] := fun _ => rfl
    have hZI : zIn m i = (decide (extS (exP (m : Int)).1 (exP (m : Int)).2 ≤ 0) && decide (0 ≤ extS (exP (i : Int)).1 (exP (i : Int)).2)) := rfl
    rw [show exW (l : Int) = (exP (l : Int)).1 from rfl, show exW (h : Int) = (exP (h : Int)).1 from rfl, show exW (m : Int) = (exP (m : Int)).1 from rfl, show exW (i : Int) = (exP (i : Int)).1 from rfl, show exD (l : Int) = (exP (l : Int)).2 from rfl, show exD (h : Int) = (exP (h : Int)).2 from rfl, show exD (m : Int) = (exP (m : Int)).2 from rfl, show exD (i : Int) = (exP (i : Int)).2 from rfl] at AD SU
    rw [show exW (l : Int) = (exP (l : Int)).1 from rfl, show exD (l : Int) = (exP (l : Int)).2 from rfl] at EO1
    rw [show exW (h : Int) = (exP (h : Int)).1 from rfl, show exD (h : Int) = (exP (h : Int)).2 from rfl] at EO2
    rw [show exW (m : Int) = (exP (m : Int)).1 from rfl, show exD (m : Int) = (exP (m : Int)).2 from rfl] at EO3
    rw [show exW (i : Int) = (exP (i : Int)).1 from rfl, show exD (i : Int) = (exP (i : Int)).2 from rfl] at EO4
    obtain ⟨X, hX⟩ : ∃ X, X = exP (l : Int) := ⟨_, rfl⟩
    obtain ⟨Y, hY⟩ : ∃ X, X = exP (h : Int) := ⟨_, rfl⟩
    obtain ⟨Z, hZ⟩ : ∃ X, X = exP (m : Int) := ⟨_, rfl⟩
    obtain ⟨V, hV⟩ : ∃ X, X = exP (i : Int) := ⟨_, rfl⟩
    have okX : XOk X := by rw [hX]; exact exP_ok _
    have okY : XOk Y := by rw [hY]; exact exP_ok _
    have okZ : XOk Z := by rw [hZ]; exact exP_ok _
    have okV : XOk V := by rw [hV]; exact exP_ok _
    rw [← hX, ← hY, ← hZ, ← hV] at AD SU
    rw [← hX] at EO1
    rw [← hY] at EO2
    rw [← hZ] at EO3
    rw [← hV] at EO4
    have hMR2 : mRow l h m i = [(mulW X.1 X.2 Z.1 Z.2, mulE X.1 X.2 Z.1 Z.2), (mulW X.1 X.2 V.1 V.2, mulE X.1 X.2 V.1 V.2), (mulW Y.1 Y.2 Z.1 Z.2, mulE Y.1 Y.2 Z.1 Z.2), (mulW Y.1 Y.2 V.1 V.2, mulE Y.1 Y.2 V.1 V.2)] := by rw [hX, hY, hZ, hV]; exact hMR
    have hQR2 : ∀ mode, qRow l h m i mode = [exP (qeX X.1 X.2 Z.1 Z.2 mode), exP (qeX X.1 X.2 V.1 V.2 mode), exP (qeX Y.1 Y.2 Z.1 Z.2 mode), exP (qeX Y.1 Y.2 V.1 V.2 mode)] := fun mode => by rw [hX, hY, hZ, hV]; exact hQR mode
    have hZI2 : zIn m i = (decide (extS Z.1 Z.2 ≤ 0) && decide (0 ≤ extS V.1 V.2)) := by rw [hZ, hV]; exact hZI
    have HLM := hid (And.intro hX (And.intro hY (And.intro hZ hV)))
    have HNN := hid (And.intro na nb)
    have HAD := hid AD
    have HSU := hid SU
    have HMU := hid MU
    have HDI := hid DI
    have HMR := hid hMR2
    have HQR := hid hQR2
    have HZI := hid hZI2
    have HOK := hid (And.intro okX (And.intro okY (And.intro okZ okV)))
    clear AD SU MU DI hMR hMR2 hQR hQR2 hZI hZI2 okX okY okZ okV hX hY hZ hV na nb un v1 v2 v3 v4 v5 v6 HV HB
    have hne : (35 : TypeId) ≠ 3 := by decide
    go_upto_region 8 with fail
    refine wp_region_growF 16 [102, 103, 104, 105, 106, 107, 108, 109, 110, 111, 112, 113, 14, 15, 16, 17] [Fact.is (.pointer (some ⟨gA, 0, none⟩)), Fact.is (.int .u64 (l : Int)), Fact.ex 3 X.1 X.2 1200, Fact.is (.pointer (some ⟨gA, 1, none⟩)), Fact.is (.int .u64 (h : Int)), Fact.ex 3 Y.1 Y.2 1200, Fact.is (.pointer (some ⟨gB, 0, none⟩)), Fact.is (.int .u64 (m : Int)), Fact.ex 3 Z.1 Z.2 1200, Fact.is (.pointer (some ⟨gB, 1, none⟩)), Fact.is (.int .u64 (i : Int)), Fact.ex 3 V.1 V.2 1200, Fact.e0 W.heap.size 35, Fact.e0 W.heap.size 35, Fact.e0 W.heap.size 35, Fact.e0 W.heap.size 35] [12, 13, 14, 15] (by kernel_rfl) (by kernel_rfl) ⟨?o0, ?o1, ?o2, ?o3, ?o4, ?o5, ?o6, ?o7, ?o8, ?o9, ?o10, ?o11, ?o12, ?o13, ?o14, ?o15, trivial⟩ ?after
    case o0 => (refine StepOKF.plain rfl ?_; intro ρ w1 R hρ hb hp hR; have e2 : ρ (.tmp 2) = .pointer (some ⟨gA, 0, none⟩) := hρ.tmp 2 rfl; replace hR := fun v w2 h1 h2 => hR v w2 h1 h2 (fun h => absurd h (by decide)); have hcon := hρ.con; have hfn := hρ.fn; clear hρ hp; unfold OpRun; go_simp; exact hR _ _ (Below.refl _ _) rfl)
    case o1 => (refine StepOKF.plain rfl ?_; intro ρ w1 R hρ hb hp hR; have e102 : ρ (.tmp 102) = _ := hp 0 102 rfl rfl; obtain ⟨j0, j1, -, -⟩ := HAB7.out.1.below hb; replace hR := fun v w2 h1 h2 => hR v w2 h1 h2 (fun h => absurd h (by decide)); have hcon := hρ.con; have hfn := hρ.fn; clear hρ hp; unfold OpRun; go_simp; exact hR _ _ (Below.refl _ _) rfl)
    case o2 => (refine StepOKF.plain rfl ?_; intro ρ w1 R hρ hb hp hR; have e103 : ρ (.tmp 103) = _ := hp 1 103 rfl rfl; replace hR := fun v w2 h1 h2 => hR v w2 h1 h2 (fun h => absurd h (by decide)); have hcon := hρ.con; have hfn := hρ.fn; clear hρ hp; unfold OpRun; go_simp; (refine (EO1.out _).mono ?_; rintro e wn ⟨v, rfl, hE, hbn⟩; exact ⟨_, rfl, hR _ _ hbn hE⟩))
    case o3 => (refine StepOKF.plain rfl ?_; intro ρ w1 R hρ hb hp hR; have e2 : ρ (.tmp 2) = .pointer (some ⟨gA, 0, none⟩) := hρ.tmp 2 rfl; replace hR := fun v w2 h1 h2 => hR v w2 h1 h2 (fun h => absurd h (by decide)); have hcon := hρ.con; have hfn := hρ.fn; clear hρ hp; unfold OpRun; go_simp; exact hR _ _ (Below.refl _ _) rfl)
    case o4 => (refine StepOKF.plain rfl ?_; intro ρ w1 R hρ hb hp hR; have e105 : ρ (.tmp 105) = _ := hp 3 105 rfl rfl; obtain ⟨j0, j1, -, -⟩ := HAB7.out.1.below hb; replace hR := fun v w2 h1 h2 => hR v w2 h1 h2 (fun h => absurd h (by decide)); have hcon := hρ.con; have hfn := hρ.fn; clear hρ hp; unfold OpRun; go_simp; exact hR _ _ (Below.refl _ _) rfl)
    case o5 => (refine StepOKF.plain rfl ?_; intro ρ w1 R hρ hb hp hR; have e106 : ρ (.tmp 106) = _ := hp 4 106 rfl rfl; replace hR := fun v w2 h1 h2 => hR v w2 h1 h2 (fun h => absurd h (by decide)); have hcon := hρ.con; have hfn := hρ.fn; clear hρ hp; unfold OpRun; go_simp; (refine (EO2.out _).mono ?_; rintro e wn ⟨v, rfl, hE, hbn⟩; exact ⟨_, rfl, hR _ _ hbn hE⟩))
    case o6 => (refine StepOKF.plain rfl ?_; intro ρ w1 R hρ hb hp hR; have e3 : ρ (.tmp 3) = .pointer (some ⟨gB, 0, none⟩) := hρ.tmp 3 rfl; replace hR := fun v w2 h1 h2 => hR v w2 h1 h2 (fun h => absurd h (by decide)); have hcon := hρ.con; have hfn := hρ.fn; clear hρ hp; unfold OpRun; go_simp; exact hR _ _ (Below.refl _ _) rfl)
    case o7 => (refine StepOKF.plain rfl ?_; intro ρ w1 R hρ hb hp hR; have e108 : ρ (.tmp 108) = _ := hp 6 108 rfl rfl; obtain ⟨j0, j1, -, -⟩ := HAB7.out.2.below hb; replace hR := fun v w2 h1 h2 => hR v w2 h1 h2 (fun h => absurd h (by decide)); have hcon := hρ.con; have hfn := hρ.fn; clear hρ hp; unfold OpRun; go_simp; exact hR _ _ (Below.refl _ _) rfl)
    case o8 => (refine StepOKF.plain rfl ?_; intro ρ w1 R hρ hb hp hR; have e109 : ρ (.tmp 109) = _ := hp 7 109 rfl rfl; replace hR := fun v w2 h1 h2 => hR v w2 h1 h2 (fun h => absurd h (by decide)); have hcon := hρ.con; have hfn := hρ.fn; clear hρ hp; unfold OpRun; go_simp; (refine (EO3.out _).mono ?_; rintro e wn ⟨v, rfl, hE, hbn⟩; exact ⟨_, rfl, hR _ _ hbn hE⟩))
    case o9 => (refine StepOKF.plain rfl ?_; intro ρ w1 R hρ hb hp hR; have e3 : ρ (.tmp 3) = .pointer (some ⟨gB, 0, none⟩) := hρ.tmp 3 rfl; replace hR := fun v w2 h1 h2 => hR v w2 h1 h2 (fun h => absurd h (by decide)); have hcon := hρ.con; have hfn := hρ.fn; clear hρ hp; unfold OpRun; go_simp; exact hR _ _ (Below.refl _ _) rfl)
    case o10 => (refine StepOKF.plain rfl ?_; intro ρ w1 R hρ hb hp hR; have e111 : ρ (.tmp 111) = _ := hp 9 111 rfl rfl; obtain ⟨j0, j1, -, -⟩ := HAB7.out.2.below hb; replace hR := fun v w2 h1 h2 => hR v w2 h1 h2 (fun h => absurd h (by decide)); have hcon := hρ.con; have hfn := hρ.fn; clear hρ hp; unfold OpRun; go_simp; exact hR _ _ (Below.refl _ _) rfl)
    case o11 => (refine StepOKF.plain rfl ?_; intro ρ w1 R hρ hb hp hR; have e112 : ρ (.tmp 112) = _ := hp 10 112 rfl rfl; replace hR := fun v w2 h1 h2 => hR v w2 h1 h2 (fun h => absurd h (by decide)); have hcon := hρ.con; have hfn := hρ.fn; clear hρ hp; unfold OpRun; go_simp; (refine (EO4.out _).mono ?_; rintro e wn ⟨v, rfl, hE, hbn⟩; exact ⟨_, rfl, hR _ _ hbn hE⟩))
    case o12 => (refine StepOKF.plain rfl ?_; intro ρ w1 R hρ hb hp hR; have hcon := hρ.con; have hfn := hρ.fn; clear hρ hp; unfold OpRun; go_simp; exact hR _ _ (below_alloc _ _) ⟨_, rfl, hb.size, E0.made rfl⟩ (fun _ => ⟨_, rfl, Nat.le_refl _, by simp⟩))
    case o13 => (refine StepOKF.plain rfl ?_; intro ρ w1 R hρ hb hp hR; have hcon := hρ.con; have hfn := hρ.fn; clear hρ hp; unfold OpRun; go_simp; exact hR _ _ (below_alloc _ _) ⟨_, rfl, hb.size, E0.made rfl⟩ (fun _ => ⟨_, rfl, Nat.le_refl _, by simp⟩))
    case o14 => (refine StepOKF.plain rfl ?_; intro ρ w1 R hρ hb hp hR; have hcon := hρ.con; have hfn := hρ.fn; clear hρ hp; unfold OpRun; go_simp; exact hR _ _ (below_alloc _ _) ⟨_, rfl, hb.size, E0.made rfl⟩ (fun _ => ⟨_, rfl, Nat.le_refl _, by simp⟩))
    case o15 => (refine StepOKF.plain rfl ?_; intro ρ w1 R hρ hb hp hR; have hcon := hρ.con; have hfn := hρ.fn; clear hρ hp; unfold OpRun; go_simp; exact hR _ _ (below_alloc _ _) ⟨_, rfl, hb.size, E0.made rfl⟩ (fun _ => ⟨_, rfl, Nat.le_refl _, by simp⟩))
    case after =>
      intro u wn hb hf hd
      have f104 := hf 2 104 (by omega) rfl
      have f107 := hf 5 107 (by omega) rfl
      have f110 := hf 8 110 (by omega) rfl
      have f113 := hf 11 113 (by omega) rfl
      have f14 := hf 12 14 (by omega) rfl
      have f15 := hf 13 15 (by omega) rfl
      have f16 := hf 14 16 (by omega) rfl
      have f17 := hf 15 17 (by omega) rfl
      have d14_15 : u 14 ≠ u 15 := hd 12 13 14 15 (by omega) (by omega) (by omega) rfl rfl rfl rfl
      have d14_16 : u 14 ≠ u 16 := hd 12 14 14 16 (by omega) (by omega) (by omega) rfl rfl rfl rfl
      have d14_17 : u 14 ≠ u 17 := hd 12 15 14 17 (by omega) (by omega) (by omega) rfl rfl rfl rfl
      have d15_16 : u 15 ≠ u 16 := hd 13 14 15 16 (by omega) (by omega) (by omega) rfl rfl rfl rfl
      have d15_17 : u 15 ≠ u 17 := hd 13 15 15 17 (by omega) (by omega) (by omega) rfl rfl rfl rfl
      have d16_17 : u 16 ≠ u 17 := hd 14 15 16 17 (by omega) (by omega) (by omega) rfl rfl rfl rfl
      clear hf hd
      simp only [putAll, Act.put, List.setIfInBounds_toArray, List.set_cons_zero, List.set_cons_succ, List.drop_succ_cons, List.drop_zero, List.drop_nil]
      obtain ⟨gx, e14, bx, z14⟩ := f14
      obtain ⟨gy, e15, by', z15⟩ := f15
      obtain ⟨gz, e16, bz, z16⟩ := f16
      obtain ⟨gw, e17, bw, z17⟩ := f17
      have k1 : gx ≠ gy := fun hh => d14_15 (by rw [e14, e15, hh])
      have k2 : gx ≠ gz := fun hh => d14_16 (by rw [e14, e16, hh])
      have k3 : gx ≠ gw := fun hh => d14_17 (by rw [e14, e17, hh])
      have k4 : gy ≠ gz := fun hh => d15_16 (by rw [e15, e16, hh])
      have k5 : gy ≠ gw := fun hh => d15_17 (by rw [e15, e17, hh])
      have k6 : gz ≠ gw := fun hh => d16_17 (by rw [e16, e17, hh])
      obtain ⟨n1, a1, l1, c1, t1, e104, x1⟩ := f104
      obtain ⟨n2, a2, l2, c2, t2, e107, x2⟩ := f107
      obtain ⟨n3, a3, l3, c3, t3, e110, x3⟩ := f110
      obtain ⟨n4, a4, l4, c4, t4, e113, x4⟩ := f113
      have HMX := hid (MX.puts hne z14 z15 z16 z17 k1 k2 k3 k4 k5 k6 x1 x2 x3 x4)
      have HMB := hid (HMS7.out.below ((((hb.set4 bx (.bool n1) (.slice a1 l1 c1) (.int .i64 t1) (.int .i64 X.1)).set4 by' (.bool n2) (.slice a2 l2 c2) (.int .i64 t2) (.int .i64 Y.1)).set4 bz (.bool n3) (.slice a3 l3 c3) (.int .i64 t3) (.int .i64 Z.1)).set4 bw (.bool n4) (.slice a4 l4 c4) (.int .i64 t4) (.int .i64 V.1)))
      obtain ⟨p0, p1', p2', p3, i0, i1, i2, i3, f0, f1, f2, f3, -⟩ := z14.cells
      obtain ⟨p4, p5, p6, p7, i4, i5, i6, i7, f4, f5, f6, f7, -⟩ := z15.cells
      obtain ⟨p8, p9, p10, p11, i8, i9, i10, i11, f8, f9, f10, f11, -⟩ := z16.cells
      obtain ⟨p12, p13, p14, p15, i12, i13, i14, i15, f12, f13, f14, f15, -⟩ := z17.cells
      rw [e104, e107, e110, e113, e14, e15, e16, e17]
      clear d14_15 d14_16 d14_17 d15_16 d15_17 d16_17 e104 e107 e110 e113 e14 e15 e16 e17 x1 x2 x3 x4 hb z14 z15 z16 z17 HAB7 EO1 EO2 EO3 EO4 HMS7
      go_upto_region 11 with fail
      refine wp_worldS (fun WW => MS w WW gS gD gP gQ s1 s2 d1 d2 p1 p2 q1 q2 ∧ MX 3 35 WW gx gy gz gw X Y Z V) ⟨HMB.out, HMX.out⟩ ?_
      intro W2 ⟨ms, mx⟩
      have HMS := hid ms
      have HMX2 := hid mx
      clear HMB HMX ms mx i0 i1 i2 i3 i4 i5 i6 i7 i8 i9 i10 i11 i12 i13 i14 i15 f0 f1 f2 f3 f4 f5 f6 f7 f8 f9 f10 f11 f12 f13 f14 f15 bx by' bz bw k1 k2 k3 k4 k5 k6 wn
      obtain ⟨m1, b1, k1, o1, r1, m2, b2, k2, o2, r2, m3, b3, k3, o3, r3, m4, b4, k4, o4, r4, ⟨zX, zY, zZ, zV⟩, hX, hY, hZ, hV⟩ := HMX2.out.parts
      have HX := hid hX
      have HY := hid hY
      have HZ := hid hZ
      have HV := hid hV
      clear hX hY hZ hV
      obtain ⟨okX, okY, okZ, okV⟩ := HOK.out
      have CA1 := hid (addP_any X Z)
      have CA2 := hid (addP_any Y V)
      have CT1 := hid (turnP_any V okV)
      have CT2 := hid (turnP_any Z okZ)
      have CB1 := hid (addP_any X (tnP V))
      have CB2 := hid (addP_any Y (tnP Z))
      obtain ⟨a1e, a2e⟩ := two_eq HAD.out
      obtain ⟨b1e, b2e⟩ := two_eq HSU.out
      have CO1 := hid (outP_any (adP X Z) (adP Y V) (adP_ok okX okZ) (adP_ok okY okV) s1 s2 a1e a2e)
      have CO2 := hid (outP_any (adP X (tnP V)) (adP Y (tnP Z)) (adP_ok okX (tnP_ok okV)) (adP_ok okY (tnP_ok okZ)) d1 d2 b1e b2e)
      clear a1e a2e b1e b2e okX okY okZ okV HAD HSU
      generalize adP X Z = A1 at *
      generalize adP Y V = A2 at *
      generalize adP X (tnP V) = B1 at *
      generalize adP Y (tnP Z) = B2 at *
      generalize tnP V = T1 at *
      generalize tnP Z = T2 at *
      refine wp_region_grow 34 [114, 115, 116, 117, 118, 119, 120, 121, 122, 123, 124, 125, 126, 127, 128, 129, 130, 131, 132, 133, 134, 135, 136, 137, 138, 139, 140, 141, 142, 143, 144, 145, 146, 147] [Fact.is (.agg #[.int .u64 s1, .int .u64 s2]), Fact.is (.func (.func 15) #[] #[]), Fact.is (.agg #[.bool m1, .slice b1 k1 o1, .int .i64 r1, .int .i64 X.1]), Fact.is (.agg #[.bool m3, .slice b3 k3 o3, .int .i64 r3, .int .i64 Z.1]), Fact.ex 3 A1.1 A1.2 6000, Fact.is (.agg #[.bool m2, .slice b2 k2 o2, .int .i64 r2, .int .i64 Y.1]), Fact.is (.agg #[.bool m4, .slice b4 k4 o4, .int .i64 r4, .int .i64 V.1]), Fact.ex 3 A2.1 A2.2 6000, Fact.is (.agg #[.int .u64 s1, .int .u64 s2]), Fact.is (.bool false), Fact.is (.bool false), Fact.is (.int .i64 0), Fact.is (.bool false), Fact.is (.bool false), Fact.is (.bool false), Fact.is (.agg #[.int .u64 d1, .int .u64 d2]), Fact.is (.func (.func 15) #[] #[]), Fact.is (.agg #[.bool m1, .slice b1 k1 o1, .int .i64 r1, .int .i64 X.1]), Fact.is (.func (.func 13) #[] #[]), Fact.is (.agg #[.bool m4, .slice b4 k4 o4, .int .i64 r4, .int .i64 V.1]), Fact.ex 3 T1.1 T1.2 1200, Fact.ex 3 B1.1 B1.2 6000, Fact.is (.agg #[.bool m2, .slice b2 k2 o2, .int .i64 r2, .int .i64 Y.1]), Fact.is (.func (.func 13) #[] #[]), Fact.is (.agg #[.bool m3, .slice b3 k3 o3, .int .i64 r3, .int .i64 Z.1]), Fact.ex 3 T2.1 T2.2 1200, Fact.ex 3 B2.1 B2.2 6000, Fact.is (.agg #[.int .u64 d1, .int .u64 d2]), Fact.is (.bool false), Fact.is (.bool false), Fact.is (.bool false), Fact.is (.int .i64 0), Fact.is (.bool false), Fact.is (.bool false)] (by kernel_rfl) (by kernel_rfl) ⟨?o0, ?o1, ?o2, ?o3, ?o4, ?o5, ?o6, ?o7, ?o8, ?o9, ?o10, ?o11, ?o12, ?o13, ?o14, ?o15, ?o16, ?o17, ?o18, ?o19, ?o20, ?o21, ?o22, ?o23, ?o24, ?o25, ?o26, ?o27, ?o28, ?o29, ?o30, ?o31, ?o32, ?o33, trivial⟩ ?after
      case o0 => (refine StepOK.plain rfl ?_; intro ρ w1 R hρ hb hp hR; have e5 : ρ (.tmp 5) = .pointer (some ⟨gS, 0, none⟩) := hρ.tmp 5 rfl; obtain ⟨-, ⟨j0, j1, -, -⟩, -⟩ := HMS.out.below hb; have hcon := hρ.con; have hfn := hρ.fn; clear hρ hp; unfold OpRun; go_simp; exact hR _ _ (Below.refl _ _) rfl)
      case o1 => (refine StepOK.plain rfl ?_; intro ρ w1 R hρ hb hp hR; have e19 : ρ (.tmp 19) = .func (.func 15) #[] #[] := hρ.tmp 19 rfl; have hcon := hρ.con; have hfn := hρ.fn; clear hρ hp; unfold OpRun; go_simp; exact hR _ _ (Below.refl _ _) rfl)
      case o2 => (refine StepOK.plain rfl ?_; intro ρ w1 R hρ hb hp hR; have e14 : ρ (.tmp 14) = .pointer (some ⟨gx, 0, none⟩) := hρ.tmp 14 rfl; obtain ⟨j0, j1, j2, j3⟩ := zX.below hb; have hcon := hρ.con; have hfn := hρ.fn; clear hρ hp; unfold OpRun; go_simp; exact hR _ _ (Below.refl _ _) rfl)
      case o3 => (refine StepOK.plain rfl ?_; intro ρ w1 R hρ hb hp hR; have e16 : ρ (.tmp 16) = .pointer (some ⟨gz, 0, none⟩) := hρ.tmp 16 rfl; obtain ⟨j0, j1, j2, j3⟩ := zZ.below hb; have hcon := hρ.con; have hfn := hρ.fn; clear hρ hp; unfold OpRun; go_simp; exact hR _ _ (Below.refl _ _) rfl)
      case o4 => (refine StepOK.plain rfl ?_; intro ρ w1 R hρ hb hp hR; have e116 : ρ (.tmp 116) = _ := hp 2 116 rfl rfl; have e117 : ρ (.tmp 117) = _ := hp 3 117 rfl rfl; have hcon := hρ.con; have hfn := hρ.fn; clear hρ hp; unfold OpRun; go_simp; (refine (CA1.out _ _ _ (HX.out.below hb) (HZ.out.below hb)).mono ?_; rintro e wn ⟨r, rfl, hE, hbn⟩; exact ⟨_, rfl, hR _ _ hbn hE⟩))
      case o5 => (refine StepOK.plain rfl ?_; intro ρ w1 R hρ hb hp hR; have e15 : ρ (.tmp 15) = .pointer (some ⟨gy, 0, none⟩) := hρ.tmp 15 rfl; obtain ⟨j0, j1, j2, j3⟩ := zY.below hb; have hcon := hρ.con; have hfn := hρ.fn; clear hρ hp; unfold OpRun; go_simp; exact hR _ _ (Below.refl _ _) rfl)
      case o6 => (refine StepOK.plain rfl ?_; intro ρ w1 R hρ hb hp hR; have e17 : ρ (.tmp 17) = .pointer (some ⟨gw, 0, none⟩) := hρ.tmp 17 rfl; obtain ⟨j0, j1, j2, j3⟩ := zV.below hb; have hcon := hρ.con; have hfn := hρ.fn; clear hρ hp; unfold OpRun; go_simp; exact hR _ _ (Below.refl _ _) rfl)
      case o7 => (refine StepOK.plain rfl ?_; intro ρ w1 R hρ hb hp hR; have e119 : ρ (.tmp 119) = _ := hp 5 119 rfl rfl; have e120 : ρ (.tmp 120) = _ := hp 6 120 rfl rfl; have hcon := hρ.con; have hfn := hρ.fn; clear hρ hp; unfold OpRun; go_simp; (refine (CA2.out _ _ _ (HY.out.below hb) (HV.out.below hb)).mono ?_; rintro e wn ⟨r, rfl, hE, hbn⟩; exact ⟨_, rfl, hR _ _ hbn hE⟩))
      case o8 => (refine StepOK.plain rfl ?_; intro ρ w1 R hρ hb hp hR; have e115 : ρ (.tmp 115) = _ := hp 1 115 rfl rfl; have f118 := hp 4 118 rfl rfl; have f121 := hp 7 121 rfl rfl; have hcon := hρ.con; have hfn := hρ.fn; clear hρ hp; unfold OpRun; go_simp; (refine (CO1.out _ _ _ f118 f121).mono ?_; rintro e wn ⟨rfl, hbn⟩; exact ⟨_, rfl, hR _ _ hbn rfl⟩))
      case o9 => (refine StepOK.plain rfl ?_; intro ρ w1 R hρ hb hp hR; have e114 : ρ (.tmp 114) = _ := hp 0 114 rfl rfl; have e122 : ρ (.tmp 122) = _ := hp 8 122 rfl rfl; have hcon := hρ.con; have hfn := hρ.fn; clear hρ hp; unfold OpRun; go_simp; exact hR _ _ (Below.refl _ _) rfl)
      case o10 => (refine StepOK.plain rfl ?_; intro ρ w1 R hρ hb hp hR; have e123 : ρ (.tmp 123) = _ := hp 9 123 rfl rfl; have hcon := hρ.con; have hfn := hρ.fn; clear hρ hp; unfold OpRun; go_simp; exact hR _ _ (Below.refl _ _) rfl)
      case o11 => (intro ρ w1 R hρ hb hp hR; have eg : ρ (.tmp 124) = .bool false := hp 10 124 rfl rfl; refine ⟨fun _ => ?_, fun hg => absurd hg (by simp [guardOf, eg])⟩; clear eg; have e6 : ρ (.tmp 6) = .int .i64 0 := hρ.tmp 6 rfl; have hcon := hρ.con; have hfn := hρ.fn; clear hρ hp; unfold OpRun; go_simp; exact hR _ _ (Below.refl _ _) rfl)
      case o12 => (intro ρ w1 R hρ hb hp hR; have eg : ρ (.tmp 124) = .bool false := hp 10 124 rfl rfl; refine ⟨fun _ => ?_, fun hg => absurd hg (by simp [guardOf, eg])⟩; clear eg; have e125 : ρ (.tmp 125) = _ := hp 11 125 rfl rfl; have hcon := hρ.con; have hfn := hρ.fn; clear hρ hp; unfold OpRun; go_simp; exact hR _ _ (Below.refl _ _) rfl)
      case o13 => (refine StepOK.plain rfl ?_; intro ρ w1 R hρ hb hp hR; have e124 : ρ (.tmp 124) = _ := hp 10 124 rfl rfl; have e126 : ρ (.tmp 126) = _ := hp 12 126 rfl rfl; have hcon := hρ.con; have hfn := hρ.fn; clear hρ hp; unfold OpRun; go_simp; exact hR _ _ (Below.refl _ _) rfl)
      case o14 => (refine StepOK.plain rfl ?_; intro ρ w1 R hρ hb hp hR; have e127 : ρ (.tmp 127) = _ := hp 13 127 rfl rfl; have hcon := hρ.con; have hfn := hρ.fn; clear hρ hp; unfold OpRun; go_simp; exact hR _ _ (Below.refl _ _) rfl)
      case o15 => (intro ρ w1 R hρ hb hp hR; have eg : ρ (.tmp 128) = .bool false := hp 14 128 rfl rfl; refine ⟨fun _ => ?_, fun hg => absurd hg (by simp [guardOf, eg])⟩; clear eg; have e7 : ρ (.tmp 7) = .pointer (some ⟨gD, 0, none⟩) := hρ.tmp 7 rfl; obtain ⟨-, -, ⟨j0, j1, -, -⟩, -⟩ := HMS.out.below hb; have hcon := hρ.con; have hfn := hρ.fn; clear hρ hp; unfold OpRun; go_simp; exact hR _ _ (Below.refl _ _) rfl)
      case o16 => (intro ρ w1 R hρ hb hp hR; have eg : ρ (.tmp 128) = .bool false := hp 14 128 rfl rfl; refine ⟨fun _ => ?_, fun hg => absurd hg (by simp [guardOf, eg])⟩; clear eg; have e19 : ρ (.tmp 19) = .func (.func 15) #[] #[] := hρ.tmp 19 rfl; have hcon := hρ.con; have hfn := hρ.fn; clear hρ hp; unfold OpRun; go_simp; exact hR _ _ (Below.refl _ _) rfl)
      case o17 => (intro ρ w1 R hρ hb hp hR; have eg : ρ (.tmp 128) = .bool false := hp 14 128 rfl rfl; refine ⟨fun _ => ?_, fun hg => absurd hg (by simp [guardOf, eg])⟩; clear eg; have e14 : ρ (.tmp 14) = .pointer (some ⟨gx, 0, none⟩) := hρ.tmp 14 rfl; obtain ⟨j0, j1, j2, j3⟩ := zX.below hb; have hcon := hρ.con; have hfn := hρ.fn; clear hρ hp; unfold OpRun; go_simp; exact hR _ _ (Below.refl _ _) rfl)
      case o18 => (intro ρ w1 R hρ hb hp hR; have eg : ρ (.tmp 128) = .bool false := hp 14 128 rfl rfl; refine ⟨fun _ => ?_, fun hg => absurd hg (by simp [guardOf, eg])⟩; clear eg; have e18 : ρ (.tmp 18) = .func (.func 13) #[] #[] := hρ.tmp 18 rfl; have hcon := hρ.con; have hfn := hρ.fn; clear hρ hp; unfold OpRun; go_simp; exact hR _ _ (Below.refl _ _) rfl)
      case o19 => (intro ρ w1 R hρ hb hp hR; have eg : ρ (.tmp 128) = .bool false := hp 14 128 rfl rfl; refine ⟨fun _ => ?_, fun hg => absurd hg (by simp [guardOf, eg])⟩; clear eg; have e17 : ρ (.tmp 17) = .pointer (some ⟨gw, 0, none⟩) := hρ.tmp 17 rfl; obtain ⟨j0, j1, j2, j3⟩ := zV.below hb; have hcon := hρ.con; have hfn := hρ.fn; clear hρ hp; unfold OpRun; go_simp; exact hR _ _ (Below.refl _ _) rfl)
      case o20 => (intro ρ w1 R hρ hb hp hR; have eg : ρ (.tmp 128) = .bool false := hp 14 128 rfl rfl; refine ⟨fun _ => ?_, fun hg => absurd hg (by simp [guardOf, eg])⟩; clear eg; have e132 : ρ (.tmp 132) = _ := hp 18 132 rfl rfl; have e133 : ρ (.tmp 133) = _ := hp 19 133 rfl rfl; have hcon := hρ.con; have hfn := hρ.fn; clear hρ hp; unfold OpRun; go_simp; (refine (CT1.out _ _ (HV.out.below hb)).mono ?_; rintro e wn ⟨r, rfl, hE, hbn⟩; exact ⟨_, rfl, hR _ _ hbn hE⟩))
      case o21 => (intro ρ w1 R hρ hb hp hR; have eg : ρ (.tmp 128) = .bool false := hp 14 128 rfl rfl; refine ⟨fun _ => ?_, fun hg => absurd hg (by simp [guardOf, eg])⟩; clear eg; have e131 : ρ (.tmp 131) = _ := hp 17 131 rfl rfl; have f134 := hp 20 134 rfl rfl; have hcon := hρ.con; have hfn := hρ.fn; clear hρ hp; unfold OpRun; go_simp; (refine (CB1.out _ _ _ (HX.out.below hb) f134).mono ?_; rintro e wn ⟨r, rfl, hE, hbn⟩; exact ⟨_, rfl, hR _ _ hbn hE⟩))
      case o22 => (intro ρ w1 R hρ hb hp hR; have eg : ρ (.tmp 128) = .bool false := hp 14 128 rfl rfl; refine ⟨fun _ => ?_, fun hg => absurd hg (by simp [guardOf, eg])⟩; clear eg; have e15 : ρ (.tmp 15) = .pointer (some ⟨gy, 0, none⟩) := hρ.tmp 15 rfl; obtain ⟨j0, j1, j2, j3⟩ := zY.below hb; have hcon := hρ.con; have hfn := hρ.fn; clear hρ hp; unfold OpRun; go_simp; exact hR _ _ (Below.refl _ _) rfl)
      case o23 => (intro ρ w1 R hρ hb hp hR; have eg : ρ (.tmp 128) = .bool false := hp 14 128 rfl rfl; refine ⟨fun _ => ?_, fun hg => absurd hg (by simp [guardOf, eg])⟩; clear eg; have e18 : ρ (.tmp 18) = .func (.func 13) #[] #[] := hρ.tmp 18 rfl; have hcon := hρ.con; have hfn := hρ.fn; clear hρ hp; unfold OpRun; go_simp; exact hR _ _ (Below.refl _ _) rfl)
      case o24 => (intro ρ w1 R hρ hb hp hR; have eg : ρ (.tmp 128) = .bool false := hp 14 128 rfl rfl; refine ⟨fun _ => ?_, fun hg => absurd hg (by simp [guardOf, eg])⟩; clear eg; have e16 : ρ (.tmp 16) = .pointer (some ⟨gz, 0, none⟩) := hρ.tmp 16 rfl; obtain ⟨j0, j1, j2, j3⟩ := zZ.below hb; have hcon := hρ.con; have hfn := hρ.fn; clear hρ hp; unfold OpRun; go_simp; exact hR _ _ (Below.refl _ _) rfl)
      case o25 => (intro ρ w1 R hρ hb hp hR; have eg : ρ (.tmp 128) = .bool false := hp 14 128 rfl rfl; refine ⟨fun _ => ?_, fun hg => absurd hg (by simp [guardOf, eg])⟩; clear eg; have e137 : ρ (.tmp 137) = _ := hp 23 137 rfl rfl; have e138 : ρ (.tmp 138) = _ := hp 24 138 rfl rfl; have hcon := hρ.con; have hfn := hρ.fn; clear hρ hp; unfold OpRun; go_simp; (refine (CT2.out _ _ (HZ.out.below hb)).mono ?_; rintro e wn ⟨r, rfl, hE, hbn⟩; exact ⟨_, rfl, hR _ _ hbn hE⟩))
      case o26 => (intro ρ w1 R hρ hb hp hR; have eg : ρ (.tmp 128) = .bool false := hp 14 128 rfl rfl; refine ⟨fun _ => ?_, fun hg => absurd hg (by simp [guardOf, eg])⟩; clear eg; have e136 : ρ (.tmp 136) = _ := hp 22 136 rfl rfl; have f139 := hp 25 139 rfl rfl; have hcon := hρ.con; have hfn := hρ.fn; clear hρ hp; unfold OpRun; go_simp; (refine (CB2.out _ _ _ (HY.out.below hb) f139).mono ?_; rintro e wn ⟨r, rfl, hE, hbn⟩; exact ⟨_, rfl, hR _ _ hbn hE⟩))
      case o27 => (intro ρ w1 R hρ hb hp hR; have eg : ρ (.tmp 128) = .bool false := hp 14 128 rfl rfl; refine ⟨fun _ => ?_, fun hg => absurd hg (by simp [guardOf, eg])⟩; clear eg; have e130 : ρ (.tmp 130) = _ := hp 16 130 rfl rfl; have f135 := hp 21 135 rfl rfl; have f140 := hp 26 140 rfl rfl; have hcon := hρ.con; have hfn := hρ.fn; clear hρ hp; unfold OpRun; go_simp; (refine (CO2.out _ _ _ f135 f140).mono ?_; rintro e wn ⟨rfl, hbn⟩; exact ⟨_, rfl, hR _ _ hbn rfl⟩))
      case o28 => (intro ρ w1 R hρ hb hp hR; have eg : ρ (.tmp 128) = .bool false := hp 14 128 rfl rfl; refine ⟨fun _ => ?_, fun hg => absurd hg (by simp [guardOf, eg])⟩; clear eg; have e129 : ρ (.tmp 129) = _ := hp 15 129 rfl rfl; have e141 : ρ (.tmp 141) = _ := hp 27 141 rfl rfl; have hcon := hρ.con; have hfn := hρ.fn; clear hρ hp; unfold OpRun; go_simp; exact hR _ _ (Below.refl _ _) rfl)
      case o29 => (refine StepOK.plain rfl ?_; intro ρ w1 R hρ hb hp hR; have e128 : ρ (.tmp 128) = _ := hp 14 128 rfl rfl; have e142 : ρ (.tmp 142) = _ := hp 28 142 rfl rfl; have hcon := hρ.con; have hfn := hρ.fn; clear hρ hp; unfold OpRun; go_simp; exact hR _ _ (Below.refl _ _) rfl)
      case o30 => (refine StepOK.plain rfl ?_; intro ρ w1 R hρ hb hp hR; have e143 : ρ (.tmp 143) = _ := hp 29 143 rfl rfl; have hcon := hρ.con; have hfn := hρ.fn; clear hρ hp; unfold OpRun; go_simp; exact hR _ _ (Below.refl _ _) rfl)
      case o31 => (intro ρ w1 R hρ hb hp hR; have eg : ρ (.tmp 144) = .bool false := hp 30 144 rfl rfl; refine ⟨fun _ => ?_, fun hg => absurd hg (by simp [guardOf, eg])⟩; clear eg; have e8 : ρ (.tmp 8) = .int .i64 0 := hρ.tmp 8 rfl; have hcon := hρ.con; have hfn := hρ.fn; clear hρ hp; unfold OpRun; go_simp; exact hR _ _ (Below.refl _ _) rfl)
      case o32 => (intro ρ w1 R hρ hb hp hR; have eg : ρ (.tmp 144) = .bool false := hp 30 144 rfl rfl; refine ⟨fun _ => ?_, fun hg => absurd hg (by simp [guardOf, eg])⟩; clear eg; have e145 : ρ (.tmp 145) = _ := hp 31 145 rfl rfl; have hcon := hρ.con; have hfn := hρ.fn; clear hρ hp; unfold OpRun; go_simp; exact hR _ _ (Below.refl _ _) rfl)
      case o33 => (refine StepOK.plain rfl ?_; intro ρ w1 R hρ hb hp hR; have e144 : ρ (.tmp 144) = _ := hp 30 144 rfl rfl; have e146 : ρ (.tmp 146) = _ := hp 32 146 rfl rfl; have hcon := hρ.con; have hfn := hρ.fn; clear hρ hp; unfold OpRun; go_simp; exact hR _ _ (Below.refl _ _) rfl)
      case after =>
        intro u wn hb hf
        have e147 : u 147 = _ := hf 33 147 (by omega) rfl
        clear hf
        simp only [putAll, Act.put, List.setIfInBounds_toArray, List.set_cons_zero, List.set_cons_succ, List.drop_succ_cons, List.drop_zero, List.drop_nil]
        rw [e147]
        have HMS3 := hid (HMS.out.below hb)
        have HMX3 := hid (HMX2.out.below hb)
        clear HX HY HZ HV zX zY zZ zV HMS HMX2 CA1 CA2 CT1 CT2 CB1 CB2 CO1 CO2 hb
        obtain ⟨W3, hW3⟩ : ∃ W, W = wn := ⟨_, rfl⟩
        subst hW3
        go_upto_region 13 with fail
        obtain ⟨m1, b1, k1, o1, r1, m2, b2, k2, o2, r2, m3, b3, k3, o3, r3, m4, b4, k4, o4, r4, ⟨zX, zY, zZ, zV⟩, hX, hY, hZ, hV⟩ := HMX3.out.parts
        have HX := hid hX
        have HY := hid hY
        have HZ := hid hZ
        have HV := hid hV
        clear hX hY hZ hV
        obtain ⟨okX, okY, okZ, okV⟩ := HOK.out
        have CM1 := hid (mulP_any X Z okX okZ)
        have CM2 := hid (mulP_any X V okX okV)
        have CM3 := hid (mulP_any Y Z okY okZ)
        have CM4 := hid (mulP_any Y V okY okV)
        have hmr : mRow l h m i = [muP X Z, muP X V, muP Y Z, muP Y V] := HMR.out
        have hmu := HMU.out
        rw [hmr] at hmu
        obtain ⟨a1e, a2e⟩ := two_eq hmu
        have CF := hid (far4_any (muP X Z) (muP X V) (muP Y Z) (muP Y V))
        obtain ⟨fo1, fo2⟩ := four_ok (muP_ok okX okZ) (muP_ok okX okV) (muP_ok okY okZ) (muP_ok okY okV)
        have CO3 := hid (outP_any (lowF [muP X Z, muP X V, muP Y Z, muP Y V] 4) (highF [muP X Z, muP X V, muP Y Z, muP Y V] 4) fo1 fo2 p1 p2 a1e a2e)
        clear hmr hmu a1e a2e fo1 fo2 okX okY okZ okV HMU HMR
        generalize lowF [muP X Z, muP X V, muP Y Z, muP Y V] 4 = LO at *
        generalize highF [muP X Z, muP X V, muP Y Z, muP Y V] 4 = HI at *
        generalize muP X Z = M1 at *
        generalize muP X V = M2 at *
        generalize muP Y Z = M3 at *
        generalize muP Y V = M4 at *
        refine wp_region_grow 24 [148, 149, 150, 151, 152, 153, 154, 155, 156, 157, 158, 159, 160, 161, 162, 163, 164, 165, 166, 167, 168, 169, 170, 171] [Fact.is (.agg #[.int .u64 p1, .int .u64 p2]), Fact.is (.func (.func 15) #[] #[]), Fact.is (.agg #[.bool m1, .slice b1 k1 o1, .int .i64 r1, .int .i64 X.1]), Fact.is (.agg #[.bool m3, .slice b3 k3 o3, .int .i64 r3, .int .i64 Z.1]), Fact.ex 3 M1.1 M1.2 6000, Fact.is (.agg #[.bool m1, .slice b1 k1 o1, .int .i64 r1, .int .i64 X.1]), Fact.is (.agg #[.bool m4, .slice b4 k4 o4, .int .i64 r4, .int .i64 V.1]), Fact.ex 3 M2.1 M2.2 6000, Fact.is (.agg #[.bool m2, .slice b2 k2 o2, .int .i64 r2, .int .i64 Y.1]), Fact.is (.agg #[.bool m3, .slice b3 k3 o3, .int .i64 r3, .int .i64 Z.1]), Fact.ex 3 M3.1 M3.2 6000, Fact.is (.agg #[.bool m2, .slice b2 k2 o2, .int .i64 r2, .int .i64 Y.1]), Fact.is (.agg #[.bool m4, .slice b4 k4 o4, .int .i64 r4, .int .i64 V.1]), Fact.ex 3 M4.1 M4.2 6000, Fact.xl 3 [M1, M2, M3, M4], Fact.xx 3 LO HI, Fact.ex 3 LO.1 LO.2 6000, Fact.ex 3 HI.1 HI.2 6000, Fact.is (.agg #[.int .u64 p1, .int .u64 p2]), Fact.is (.bool false), Fact.is (.bool false), Fact.is (.int .i64 0), Fact.is (.bool false), Fact.is (.bool false)] (by kernel_rfl) (by kernel_rfl) ⟨?o0, ?o1, ?o2, ?o3, ?o4, ?o5, ?o6, ?o7, ?o8, ?o9, ?o10, ?o11, ?o12, ?o13, ?o14, ?o15, ?o16, ?o17, ?o18, ?o19, ?o20, ?o21, ?o22, ?o23, trivial⟩ ?after
        case o0 => (refine StepOK.plain rfl ?_; intro ρ w1 R hρ hb hp hR; have e9 : ρ (.tmp 9) = .pointer (some ⟨gP, 0, none⟩) := hρ.tmp 9 rfl; obtain ⟨-, -, -, ⟨j0, j1, -, -⟩, -⟩ := HMS3.out.below hb; have hcon := hρ.con; have hfn := hρ.fn; clear hρ hp; unfold OpRun; go_simp; exact hR _ _ (Below.refl _ _) rfl)
        case o1 => (refine StepOK.plain rfl ?_; intro ρ w1 R hρ hb hp hR; have e19 : ρ (.tmp 19) = .func (.func 15) #[] #[] := hρ.tmp 19 rfl; have hcon := hρ.con; have hfn := hρ.fn; clear hρ hp; unfold OpRun; go_simp; exact hR _ _ (Below.refl _ _) rfl)
        case o2 => (refine StepOK.plain rfl ?_; intro ρ w1 R hρ hb hp hR; have e14 : ρ (.tmp 14) = .pointer (some ⟨gx, 0, none⟩) := hρ.tmp 14 rfl; obtain ⟨j0, j1, j2, j3⟩ := zX.below hb; have hcon := hρ.con; have hfn := hρ.fn; clear hρ hp; unfold OpRun; go_simp; exact hR _ _ (Below.refl _ _) rfl)
        case o3 => (refine StepOK.plain rfl ?_; intro ρ w1 R hρ hb hp hR; have e16 : ρ (.tmp 16) = .pointer (some ⟨gz, 0, none⟩) := hρ.tmp 16 rfl; obtain ⟨j0, j1, j2, j3⟩ := zZ.below hb; have hcon := hρ.con; have hfn := hρ.fn; clear hρ hp; unfold OpRun; go_simp; exact hR _ _ (Below.refl _ _) rfl)
        case o4 => (refine StepOK.plain rfl ?_; intro ρ w1 R hρ hb hp hR; have e150 : ρ (.tmp 150) = _ := hp 2 150 rfl rfl; have e151 : ρ (.tmp 151) = _ := hp 3 151 rfl rfl; have hcon := hρ.con; have hfn := hρ.fn; clear hρ hp; unfold OpRun; go_simp; (refine (CM1.out _ _ _ (HX.out.below hb) (HZ.out.below hb)).mono ?_; rintro e wn ⟨r, rfl, hE, hbn⟩; exact ⟨_, rfl, hR _ _ hbn hE⟩))
        case o5 => (refine StepOK.plain rfl ?_; intro ρ w1 R hρ hb hp hR; have e14 : ρ (.tmp 14) = .pointer (some ⟨gx, 0, none⟩) := hρ.tmp 14 rfl; obtain ⟨j0, j1, j2, j3⟩ := zX.below hb; have hcon := hρ.con; have hfn := hρ.fn; clear hρ hp; unfold OpRun; go_simp; exact hR _ _ (Below.refl _ _) rfl)
        case o6 => (refine StepOK.plain rfl ?_; intro ρ w1 R hρ hb hp hR; have e17 : ρ (.tmp 17) = .pointer (some ⟨gw, 0, none⟩) := hρ.tmp 17 rfl; obtain ⟨j0, j1, j2, j3⟩ := zV.below hb; have hcon := hρ.con; have hfn := hρ.fn; clear hρ hp; unfold OpRun; go_simp; exact hR _ _ (Below.refl _ _) rfl)
        case o7 => (refine StepOK.plain rfl ?_; intro ρ w1 R hρ hb hp hR; have e153 : ρ (.tmp 153) = _ := hp 5 153 rfl rfl; have e154 : ρ (.tmp 154) = _ := hp 6 154 rfl rfl; have hcon := hρ.con; have hfn := hρ.fn; clear hρ hp; unfold OpRun; go_simp; (refine (CM2.out _ _ _ (HX.out.below hb) (HV.out.below hb)).mono ?_; rintro e wn ⟨r, rfl, hE, hbn⟩; exact ⟨_, rfl, hR _ _ hbn hE⟩))
        case o8 => (refine StepOK.plain rfl ?_; intro ρ w1 R hρ hb hp hR; have e15 : ρ (.tmp 15) = .pointer (some ⟨gy, 0, none⟩) := hρ.tmp 15 rfl; obtain ⟨j0, j1, j2, j3⟩ := zY.below hb; have hcon := hρ.con; have hfn := hρ.fn; clear hρ hp; unfold OpRun; go_simp; exact hR _ _ (Below.refl _ _) rfl)
        case o9 => (refine StepOK.plain rfl ?_; intro ρ w1 R hρ hb hp hR; have e16 : ρ (.tmp 16) = .pointer (some ⟨gz, 0, none⟩) := hρ.tmp 16 rfl; obtain ⟨j0, j1, j2, j3⟩ := zZ.below hb; have hcon := hρ.con; have hfn := hρ.fn; clear hρ hp; unfold OpRun; go_simp; exact hR _ _ (Below.refl _ _) rfl)
        case o10 => (refine StepOK.plain rfl ?_; intro ρ w1 R hρ hb hp hR; have e156 : ρ (.tmp 156) = _ := hp 8 156 rfl rfl; have e157 : ρ (.tmp 157) = _ := hp 9 157 rfl rfl; have hcon := hρ.con; have hfn := hρ.fn; clear hρ hp; unfold OpRun; go_simp; (refine (CM3.out _ _ _ (HY.out.below hb) (HZ.out.below hb)).mono ?_; rintro e wn ⟨r, rfl, hE, hbn⟩; exact ⟨_, rfl, hR _ _ hbn hE⟩))
        case o11 => (refine StepOK.plain rfl ?_; intro ρ w1 R hρ hb hp hR; have e15 : ρ (.tmp 15) = .pointer (some ⟨gy, 0, none⟩) := hρ.tmp 15 rfl; obtain ⟨j0, j1, j2, j3⟩ := zY.below hb; have hcon := hρ.con; have hfn := hρ.fn; clear hρ hp; unfold OpRun; go_simp; exact hR _ _ (Below.refl _ _) rfl)
        case o12 => (refine StepOK.plain rfl ?_; intro ρ w1 R hρ hb hp hR; have e17 : ρ (.tmp 17) = .pointer (some ⟨gw, 0, none⟩) := hρ.tmp 17 rfl; obtain ⟨j0, j1, j2, j3⟩ := zV.below hb; have hcon := hρ.con; have hfn := hρ.fn; clear hρ hp; unfold OpRun; go_simp; exact hR _ _ (Below.refl _ _) rfl)
        case o13 => (refine StepOK.plain rfl ?_; intro ρ w1 R hρ hb hp hR; have e159 : ρ (.tmp 159) = _ := hp 11 159 rfl rfl; have e160 : ρ (.tmp 160) = _ := hp 12 160 rfl rfl; have hcon := hρ.con; have hfn := hρ.fn; clear hρ hp; unfold OpRun; go_simp; (refine (CM4.out _ _ _ (HY.out.below hb) (HV.out.below hb)).mono ?_; rintro e wn ⟨r, rfl, hE, hbn⟩; exact ⟨_, rfl, hR _ _ hbn hE⟩))
        case o14 => (refine StepOK.plain rfl ?_; intro ρ w1 R hρ hb hp hR; have f152 := hp 4 152 rfl rfl; have f155 := hp 7 155 rfl rfl; have f158 := hp 10 158 rfl rfl; have f161 := hp 13 161 rfl rfl; obtain ⟨u1, u2, u3, u4, u5, e152, q1'⟩ := f152; obtain ⟨u6, u7, u8, u9, u10, e155, q2'⟩ := f155; obtain ⟨u11, u12, u13, u14, u15, e158, q3'⟩ := f158; obtain ⟨u16, u17, u18, u19, u20, e161, q4'⟩ := f161; have hcon := hρ.con; have hfn := hρ.fn; clear hρ hp; unfold OpRun; go_simp; exact hR _ _ (below_alloc _ _) ⟨_, _, rfl, XL.made4 q1' q2' q3' q4'⟩)
        case o15 => (refine StepOK.plain rfl ?_; intro ρ w1 R hρ hb hp hR; have f162 := hp 14 162 rfl rfl; obtain ⟨g9, cap9, e162, h162⟩ := f162; simp only [List.length_cons, List.length_nil, Nat.zero_add, Nat.reduceAdd] at e162; have hcon := hρ.con; have hfn := hρ.fn; clear hρ hp; unfold OpRun; go_simp; (skip; refine (CF.out _ _ _ h162).mono ?_; rintro e wn ⟨r, s, rfl, h1, h2, hbn⟩; exact ⟨_, rfl, hR _ _ hbn ⟨r, s, rfl, h1, h2⟩⟩))
        case o16 => (refine StepOK.plain rfl ?_; intro ρ w1 R hρ hb hp hR; have f163 := hp 15 163 rfl rfl; obtain ⟨r9, s9, e163, h1, h2⟩ := f163; have hcon := hρ.con; have hfn := hρ.fn; clear hρ hp; unfold OpRun; go_simp; exact hR _ _ (Below.refl _ _) h1)
        case o17 => (refine StepOK.plain rfl ?_; intro ρ w1 R hρ hb hp hR; have f163 := hp 15 163 rfl rfl; obtain ⟨r9, s9, e163, h1, h2⟩ := f163; have hcon := hρ.con; have hfn := hρ.fn; clear hρ hp; unfold OpRun; go_simp; exact hR _ _ (Below.refl _ _) h2)
        case o18 => (refine StepOK.plain rfl ?_; intro ρ w1 R hρ hb hp hR; have e149 : ρ (.tmp 149) = _ := hp 1 149 rfl rfl; have f164 := hp 16 164 rfl rfl; have f165 := hp 17 165 rfl rfl; have hcon := hρ.con; have hfn := hρ.fn; clear hρ hp; unfold OpRun; go_simp; (refine (CO3.out _ _ _ f164 f165).mono ?_; rintro e wn ⟨rfl, hbn⟩; exact ⟨_, rfl, hR _ _ hbn rfl⟩))
        case o19 => (refine StepOK.plain rfl ?_; intro ρ w1 R hρ hb hp hR; have e148 : ρ (.tmp 148) = _ := hp 0 148 rfl rfl; have e166 : ρ (.tmp 166) = _ := hp 18 166 rfl rfl; have hcon := hρ.con; have hfn := hρ.fn; clear hρ hp; unfold OpRun; go_simp; exact hR _ _ (Below.refl _ _) rfl)
        case o20 => (refine StepOK.plain rfl ?_; intro ρ w1 R hρ hb hp hR; have e167 : ρ (.tmp 167) = _ := hp 19 167 rfl rfl; have hcon := hρ.con; have hfn := hρ.fn; clear hρ hp; unfold OpRun; go_simp; exact hR _ _ (Below.refl _ _) rfl)
        case o21 => (intro ρ w1 R hρ hb hp hR; have eg : ρ (.tmp 168) = .bool false := hp 20 168 rfl rfl; refine ⟨fun _ => ?_, fun hg => absurd hg (by simp [guardOf, eg])⟩; clear eg; have e10 : ρ (.tmp 10) = .int .i64 0 := hρ.tmp 10 rfl; have hcon := hρ.con; have hfn := hρ.fn; clear hρ hp; unfold OpRun; go_simp; exact hR _ _ (Below.refl _ _) rfl)
        case o22 => (intro ρ w1 R hρ hb hp hR; have eg : ρ (.tmp 168) = .bool false := hp 20 168 rfl rfl; refine ⟨fun _ => ?_, fun hg => absurd hg (by simp [guardOf, eg])⟩; clear eg; have e169 : ρ (.tmp 169) = _ := hp 21 169 rfl rfl; have hcon := hρ.con; have hfn := hρ.fn; clear hρ hp; unfold OpRun; go_simp; exact hR _ _ (Below.refl _ _) rfl)
        case o23 => (refine StepOK.plain rfl ?_; intro ρ w1 R hρ hb hp hR; have e168 : ρ (.tmp 168) = _ := hp 20 168 rfl rfl; have e170 : ρ (.tmp 170) = _ := hp 22 170 rfl rfl; have hcon := hρ.con; have hfn := hρ.fn; clear hρ hp; unfold OpRun; go_simp; exact hR _ _ (Below.refl _ _) rfl)
        case after =>
          intro u wn hb hf
          have e171 : u 171 = _ := hf 23 171 (by omega) rfl
          clear hf
          simp only [putAll, Act.put, List.setIfInBounds_toArray, List.set_cons_zero, List.set_cons_succ, List.drop_succ_cons, List.drop_zero, List.drop_nil]
          rw [e171]
          have HMS4 := hid (HMS3.out.below hb)
          have HMX4 := hid (HMX3.out.below hb)
          clear HX HY HZ HV zX zY zZ zV HMS3 HMX3 CM1 CM2 CM3 CM4 CF CO3 hb
          obtain ⟨W4, hW4⟩ : ∃ W, W = wn := ⟨_, rfl⟩
          subst hW4
          obtain ⟨okX, okY, okZ, okV⟩ := HOK.out
          have SGZ := hid (fun (W : World) (v : Value) (a : EX 3 W Z.1 Z.2 6000 v) => extSign_any v Z.1 Z.2 W a okZ.1)
          have SGV := hid (fun (W : World) (v : Value) (a : EX 3 W V.1 V.2 6000 v) => extSign_any v V.1 V.2 W a okV.1)
          obtain ⟨sa, hsa⟩ : ∃ a, a = extS Z.1 Z.2 := ⟨_, rfl⟩
          obtain ⟨sb, hsb⟩ : ∃ a, a = extS V.1 V.2 := ⟨_, rfl⟩
          have hz9 := HZI.out
          rw [← hsa, ← hsb] at hz9
          rw [← hsa] at SGZ
          rw [← hsb] at SGV
          obtain ⟨zz, hzz⟩ : ∃ z, z = zIn m i := ⟨_, rfl⟩
          rw [← hzz] at hz9 HDI
          have HZ9 := hid hz9
          have HZZ := hid hzz
          clear hsa hsb hz9 HZI okX okY okZ okV hzz
          go_upto_region 15 with fail
          go_cut [179] (fun s wx => s = .bool zz ∧ MS w wx gS gD gP gQ s1 s2 d1 d2 p1 p2 q1 q2 ∧ MX 3 35 wx gx gy gz gw X Y Z V)
          case first => as_aux_lemma =>
            obtain ⟨m1, b1, k1, o1, r1, m2, b2, k2, o2, r2, m3, b3, k3, o3, r3, m4, b4, k4, o4, r4, ⟨-, -, zZ, zV⟩, -, -, hZ, hV⟩ := HMX4.out.parts
            have HZ := hid (hZ.weak (B := 6000) (by omega))
            have HV := hid (hV.weak (B := 6000) (by omega))
            clear hZ hV
            obtain ⟨z0, z1, z2, z3⟩ := id zZ
            by_cases ha : sa ≤ 0
            · have da : decide (sa ≤ 0) = true := decide_eq_true ha
              have hz := HZ9.out
              rw [da, Bool.true_and] at hz
              have HZ8 := hid hz
              clear hz HZ9 HDI
              go_wp2_with (first
                | (go_at_call 20; (with_reducible refine (SGZ.out _ _ HZ.out).mono ?_); rintro en w5 ⟨rfl, hb5⟩; obtain ⟨v0, v1, v2, v3⟩ := zV.below hb5)
                | (go_at_call 20; (with_reducible refine (SGV.out _ _ (HV.out.below hb5)).mono ?_); rintro en w6 ⟨rfl, hb6⟩))
              go_meet
              exact ⟨by rw [HZ8.out], (HMS4.out.below hb5).below hb6, (HMX4.out.below hb5).below hb6⟩
            · have da : decide (sa ≤ 0) = false := decide_eq_false ha
              have hz := HZ9.out
              rw [da, Bool.false_and] at hz
              subst hz
              clear HZ9 HDI
              go_wp2_with (go_at_call 20; (with_reducible refine (SGZ.out _ _ HZ.out).mono ?_); rintro en w5 ⟨rfl, hb5⟩)
              go_meet
              exact ⟨rfl, HMS4.out.below hb5, HMX4.out.below hb5⟩
          case rest =>
          obtain ⟨rfl, ms, mx⟩ := hcut
          obtain ⟨W5, hW5⟩ : ∃ W, W = wc := ⟨_, rfl⟩
          subst hW5
          have HMS5 := hid ms
          have HMX5 := hid mx
          clear ms mx HMS4 HMX4 SGZ SGV HZ9
          cases hzv : zz
          case true =>
            obtain ⟨e1, e2⟩ := HDI.out.1 hzv
            obtain ⟨e3, e4⟩ := two_eq e1
            subst e2 e3 e4
            obtain ⟨y0, -, -, -, ⟨q0, q1, -, -⟩⟩ := id HMS5.out
            clear HDI HZZ hzv HMX5 HMS5 HQR HOK e1
            go_wp2_with fail
            go_ret
            exact ⟨rfl, y0⟩
          case false =>
          obtain ⟨e1, e2⟩ := HDI.out.2 hzv
          obtain ⟨q1e, q2e⟩ := two_eq e1
          subst e2
          have hzf : hasZ m i = false := by rw [zin_eq HNN.out.2, ← HZZ.out, hzv]
          obtain ⟨cm, ci, -, -⟩ := no_zero m i HNN.out.2 hzf
          have HC := hid (And.intro cm ci)
          have HQE := hid (And.intro q1e q2e)
          clear e1 q1e q2e cm ci hzf HDI HZZ hzv
          obtain ⟨m1, b1, k1, o1, r1, m2, b2, k2, o2, r2, m3, b3, k3, o3, r3, m4, b4, k4, o4, r4, ⟨zX, zY, -, -⟩, hX, hY, -, -⟩ := HMX5.out.parts
          have QX : QD 3 W5 X.2 1200 1100 (.agg #[.bool m1, .slice b1 k1 o1, .int .i64 r1]) := by obtain ⟨n, ao, l, c, t, e, q⟩ := hX; simp at e; obtain ⟨rfl, ⟨rfl, rfl, rfl⟩, rfl⟩ := e; exact q
          have QY : QD 3 W5 Y.2 1200 1100 (.agg #[.bool m2, .slice b2 k2 o2, .int .i64 r2]) := by obtain ⟨n, ao, l, c, t, e, q⟩ := hY; simp at e; obtain ⟨rfl, ⟨rfl, rfl, rfl⟩, rfl⟩ := e; exact q
          obtain ⟨x0, x1, x2, x3⟩ := id zX
          obtain ⟨y0, y1, y2, y3⟩ := id zY
          have hxr : XR 3 (W5.alloc (.cells #[.bool m1, .slice b1 k1 o1, .int .i64 r1, .int .i64 X.1, .bool m2, .slice b2 k2 o2, .int .i64 r2, .int .i64 Y.1] 35)) W5.heap.size X Y := XR.made QX QY
          have HXR := hid hxr
          have HM6 := hid (And.intro (HMS5.out.below (below_alloc W5 (.cells #[.bool m1, .slice b1 k1 o1, .int .i64 r1, .int .i64 X.1, .bool m2, .slice b2 k2 o2, .int .i64 r2, .int .i64 Y.1] 35))) (HMX5.out.below (below_alloc W5 (.cells #[.bool m1, .slice b1 k1 o1, .int .i64 r1, .int .i64 X.1, .bool m2, .slice b2 k2 o2, .int .i64 r2, .int .i64 Y.1] 35))))
          clear hxr QX QY hX hY zX zY
          go_wp2_with fail
          refine wp_worldS (fun WW => MS w WW gS gD gP gQ s1 s2 d1 d2 p1 p2 q1 q2 ∧ MX 3 35 WW gx gy gz gw X Y Z V ∧ XR 3 WW W5.heap.size X Y) ⟨HM6.out.1, HM6.out.2, HXR.out⟩ ?_
          intro W6 ⟨ms, mx, xr⟩
          obtain ⟨gU, hgU⟩ : ∃ g, g = W5.heap.size := ⟨_, rfl⟩
          rw [← hgU] at xr ⊢
          have HMS6 := hid ms
          have HMX6 := hid mx
          have HXR6 := hid xr
          clear ms mx xr HM6 HXR HMS5 HMX5 hgU x0 x1 x2 x3 y0 y1 y2 y3
          have hX2 : X = exP (l : Int) := HLM.out.1
          have hY2 : Y = exP (h : Int) := HLM.out.2.1
          have hZ2 : Z = exP (m : Int) := HLM.out.2.2.1
          have hV2 : V = exP (i : Int) := HLM.out.2.2.2
          have HSM : Hid ((X.2.1.natAbs < 2 ^ 53 ∧ -1074 ≤ X.2.2 ∧ X.2.2 ≤ 1024) ∧ (Y.2.1.natAbs < 2 ^ 53 ∧ -1074 ≤ Y.2.2 ∧ Y.2.2 ≤ 1024) ∧ (Z.2.1.natAbs < 2 ^ 53 ∧ -1074 ≤ Z.2.2 ∧ Z.2.2 ≤ 1024) ∧ (V.2.1.natAbs < 2 ^ 53 ∧ -1074 ≤ V.2.2 ∧ V.2.2 ≤ 1024) ∧ (Z.1 = 0 → Z.2.1 ≠ 0) ∧ (V.1 = 0 → V.2.1 ≠ 0)) :=
            hid ⟨by rw [hX2]; exact exP_small l HNN.out.1.1.1, by rw [hY2]; exact exP_small h HNN.out.1.2.1.1, by rw [hZ2]; exact exP_small m HNN.out.2.1.1, by rw [hV2]; exact exP_small i HNN.out.2.2.1.1, by rw [hZ2]; exact exP_nz m HNN.out.2.1.1 HC.out.1, by rw [hV2]; exact exP_nz i HNN.out.2.2.1.1 HC.out.2⟩
          have HQN : Hid (∀ mode, (mode = 1 ∨ mode = 2) → (U64 (qeX X.1 X.2 Z.1 Z.2 mode) ∧ nanB (qeX X.1 X.2 Z.1 Z.2 mode) = false) ∧ (U64 (qeX X.1 X.2 V.1 V.2 mode) ∧ nanB (qeX X.1 X.2 V.1 V.2 mode) = false) ∧ (U64 (qeX Y.1 Y.2 Z.1 Z.2 mode) ∧ nanB (qeX Y.1 Y.2 Z.1 Z.2 mode) = false) ∧ (U64 (qeX Y.1 Y.2 V.1 V.2 mode) ∧ nanB (qeX Y.1 Y.2 V.1 V.2 mode) = false)) :=
            hid (fun mode hm => by rw [hX2, hY2, hZ2, hV2]; exact ⟨qeR_num l m mode hm, qeR_num l i mode hm, qeR_num h m mode hm, qeR_num h i mode hm⟩)
          have hl2 : qRow l h m i 2 = [exP (qeX X.1 X.2 Z.1 Z.2 2), exP (qeX X.1 X.2 V.1 V.2 2), exP (qeX Y.1 Y.2 Z.1 Z.2 2), exP (qeX Y.1 Y.2 V.1 V.2 2)] := HQR.out 2
          have hl1 : qRow l h m i 1 = [exP (qeX X.1 X.2 Z.1 Z.2 1), exP (qeX X.1 X.2 V.1 V.2 1), exP (qeX Y.1 Y.2 Z.1 Z.2 1), exP (qeX Y.1 Y.2 V.1 V.2 1)] := HQR.out 1
          have hqe := HQE.out
          rw [hl2, hl1] at hqe
          have HQF := hid hqe
          obtain ⟨L2, hL2⟩ : ∃ L, L = [exP (qeX X.1 X.2 Z.1 Z.2 2), exP (qeX X.1 X.2 V.1 V.2 2), exP (qeX Y.1 Y.2 Z.1 Z.2 2), exP (qeX Y.1 Y.2 V.1 V.2 2)] := ⟨_, rfl⟩
          obtain ⟨L1, hL1⟩ : ∃ L, L = [exP (qeX X.1 X.2 Z.1 Z.2 1), exP (qeX X.1 X.2 V.1 V.2 1), exP (qeX Y.1 Y.2 Z.1 Z.2 1), exP (qeX Y.1 Y.2 V.1 V.2 1)] := ⟨_, rfl⟩
          have HL2 := hid hL2
          have HL1 := hid hL1
          clear hX2 hY2 hZ2 hV2 HLM hqe HQE HQR hl1 hl2 HNN HC hL1 hL2
          go_loopw [20, 21, 191] (fun s20 s21 s191 wr => ∃ (j : Nat) (v u : Value), v = s20 ∧ u = s21 ∧ s191 = .int .i64 (j : Int) ∧ j ≤ 2 ∧ RS 3 35 W6 wr v u (L2.take (2 * j)) (L1.take (2 * j))) (fun _ _ s191 _ => 2 - (intOf s191).toNat)
          case atStart => exact ⟨0, _, _, rfl, rfl, rfl, by omega, Below.refl _ _, XO.nil, XO.nil, fun b hb => by cases hb⟩
          case round =>
            obtain ⟨j, v, u, rfl, rfl, rfl, hj, rs⟩ := hrel
            by_cases hj2 : j < 2
            · have g1 : (j : Int) < 2 := by omega
              have wI : IntKind.i64.wrap ((j : Int) + 1) = (j : Int) + 1 := IntWalk.i64_in _ (by omega)
              obtain ⟨U, hU⟩ : ∃ U, U = if j = 0 then X else Y := ⟨_, rfl⟩
              obtain ⟨m1, b1, k1, o1, r1, x0, x1, x2, x3, qx⟩ := (HXR6.out.below rs.1).at j hj2 U hU
              have HU := hid hU
              have HRS := hid rs
              have HQX := hid qx
              clear hU rs qx
              go_upto_region 21 with fail
              refine wp_worldS (fun WW => RS 3 35 W6 WW v u (L2.take (2 * j)) (L1.take (2 * j)) ∧ XE 3 35 WW wr.heap.size U.1 U.2 1200 ∧ (∀ b, v.ownBlock = some b → b ≠ wr.heap.size) ∧ (∀ b, u.ownBlock = some b → b ≠ wr.heap.size)) ⟨HRS.out.below (below_alloc _ _), XE.made rfl HQX.out, fun b hb => by have := HRS.out.2.1.lt b hb; omega, fun b hb => by have := HRS.out.2.2.1.lt b hb; omega⟩ ?_
              intro W7 ⟨rs, xe, ap1, ap2⟩
              obtain ⟨gu, hgu⟩ : ∃ g, g = wr.heap.size := ⟨_, rfl⟩
              rw [← hgu] at xe ap1 ap2 ⊢
              obtain ⟨-, -, -, -, -, -, -, -, -, -, m3, b3, k3, o3, r3, m4, b4, k4, o4, r4, ⟨-, -, zZ, zV⟩, -, -, hZ, hV⟩ := (HMX6.out.below rs.1).parts
              have QZ : QD 3 W7 Z.2 1200 1100 (.agg #[.bool m3, .slice b3 k3 o3, .int .i64 r3]) := by obtain ⟨n, ao, l, c, t, e, q⟩ := hZ; simp at e; obtain ⟨rfl, ⟨rfl, rfl, rfl⟩, rfl⟩ := e; exact q
              have QV : QD 3 W7 V.2 1200 1100 (.agg #[.bool m4, .slice b4 k4 o4, .int .i64 r4]) := by obtain ⟨n, ao, l, c, t, e, q⟩ := hV; simp at e; obtain ⟨rfl, ⟨rfl, rfl, rfl⟩, rfl⟩ := e; exact q
              obtain ⟨z0, z1, z2, z3⟩ := id zZ
              obtain ⟨v0, v1, v2, v3⟩ := id zV
              have hri : RI 3 35 W6 (W7.alloc (.cells #[.bool m3, .slice b3 k3 o3, .int .i64 r3, .int .i64 Z.1, .bool m4, .slice b4 k4 o4, .int .i64 r4, .int .i64 V.1] 35)) gu W7.heap.size U Z V v u (L2.take (2 * j)) (L1.take (2 * j)) :=
                ⟨rs.below (below_alloc _ _), xe.below (below_alloc _ _), XR.made QZ QV, fun b hb => ⟨ap1 b hb, by have := rs.2.1.lt b hb; omega⟩, fun b hb => ⟨ap2 b hb, by have := rs.2.2.1.lt b hb; omega⟩⟩
              have HRI := hid hri
              clear hri rs xe ap1 ap2 QZ QV hZ hV zZ zV HRS HQX x0 x1 x2 x3 hgu
              go_wp2_with fail
              refine wp_worldS (fun WW => RI 3 35 W6 WW gu W7.heap.size U Z V v u (L2.take (2 * j)) (L1.take (2 * j))) HRI.out ?_
              intro W8 ri
              obtain ⟨gv, hgv⟩ : ∃ g, g = W7.heap.size := ⟨_, rfl⟩
              rw [← hgv] at ri ⊢
              have HRI8 := hid ri
              clear HRI ri hgv z0 z1 z2 z3 v0 v1 v2 v3
              go_loopw [20, 21, 199] (fun s20 s21 s199 wx => ∃ (k : Nat) (v u : Value), v = s20 ∧ u = s21 ∧ s199 = .int .i64 (k : Int) ∧ k ≤ 2 ∧ RI 3 35 W6 wx gu gv U Z V v u (L2.take (2 * j + k)) (L1.take (2 * j + k))) (fun _ _ s199 _ => 2 - (intOf s199).toNat)
              case atStart => exact ⟨0, _, _, rfl, rfl, rfl, by omega, HRI8.out⟩
              case round =>
                obtain ⟨k, v, u, rfl, rfl, rfl, hk, ri⟩ := hrel
                clear HRI8
                by_cases hk2 : k < 2
                · have g2 : (k : Int) < 2 := by omega
                  have wK : IntKind.i64.wrap ((k : Int) + 1) = (k : Int) + 1 := IntWalk.i64_in _ (by omega)
                  obtain ⟨T, hT'⟩ : ∃ T, T = if k = 0 then Z else V := ⟨_, rfl⟩
                  obtain ⟨m2, b2, k2, o2, r2, y0, y1, y2, y3, qy⟩ := ri.2.2.1.at k hk2 T hT'
                  have HRI := hid ri
                  have HQY := hid qy
                  obtain ⟨R2, hR2⟩ : ∃ R, R = qeX U.1 U.2 T.1 T.2 2 := ⟨_, rfl⟩
                  obtain ⟨R1, hR1⟩ : ∃ R, R = qeX U.1 U.2 T.1 T.2 1 := ⟨_, rfl⟩
                  obtain ⟨okX, okY, okZ, okV⟩ := HOK.out
                  have okU : XOk U := by rw [HU.out]; split; exact okX; exact okY
                  have okT : XOk T := by rw [hT']; split; exact okZ; exact okV
                  obtain ⟨sX, sY, sZ, sV, nZ, nV⟩ := HSM.out
                  have sU : U.2.1.natAbs < 2 ^ 53 ∧ -1074 ≤ U.2.2 ∧ U.2.2 ≤ 1024 := by rw [HU.out]; split; exact sX; exact sY
                  have sT : T.2.1.natAbs < 2 ^ 53 ∧ -1074 ≤ T.2.2 ∧ T.2.2 ≤ 1024 := by rw [hT']; split; exact sZ; exact sV
                  have nT : T.1 = 0 → T.2.1 ≠ 0 := by rw [hT']; split; exact nZ; exact nV
                  have nums : ∀ mode, (mode = 1 ∨ mode = 2) → U64 (qeX U.1 U.2 T.1 T.2 mode) ∧ nanB (qeX U.1 U.2 T.1 T.2 mode) = false := fun mode hm => by
                    obtain ⟨p, q, r, s⟩ := HQN.out mode hm
                    rw [HU.out, hT']
                    split <;> split
                    · exact p
                    · exact q
                    · exact r
                    · exact s
                  have st2 : L2.take (2 * j + (k + 1)) = L2.take (2 * j + k) ++ [exP R2] := by
                    rw [HL2.out, hR2]
                    refine row_step _ _ _ _ j k hj2 hk2 _ ?_
                    rw [HU.out, hT']
                    split <;> split <;> rfl
                  have st1 : L1.take (2 * j + (k + 1)) = L1.take (2 * j + k) ++ [exP R1] := by
                    rw [HL1.out, hR1]
                    refine row_step _ _ _ _ j k hj2 hk2 _ ?_
                    rw [HU.out, hT']
                    split <;> split <;> rfl
                  have CQ2 := hid (fun (W : World) (v u : Value) (a : EX 3 W U.1 U.2 1200 v) (b : EX 3 W T.1 T.2 1200 u) => quoEnd_any v u U.1 T.1 U.2 T.2 2 W a b okU.1 okT.1 (by omega) (by omega) nT sU.1 sT.1 ⟨by omega, by omega⟩)
                  have CQ1 := hid (fun (W : World) (v u : Value) (a : EX 3 W U.1 U.2 1200 v) (b : EX 3 W T.1 T.2 1200 u) => quoEnd_any v u U.1 T.1 U.2 T.2 1 W a b okU.1 okT.1 (by omega) (by omega) nT sU.1 sT.1 ⟨by omega, by omega⟩)
                  have n2' := nums 2 (.inr rfl)
                  have n1' := nums 1 (.inl rfl)
                  rw [← hR2] at CQ2 n2'
                  rw [← hR1] at CQ1 n1'
                  have CE2 := hid (fun w => extOfX_any R2 n2'.1 n2'.2 w)
                  have CE1 := hid (fun w => extOfX_any R1 n1'.1 n1'.2 w)
                  have HS2 := hid st2
                  have HS1 := hid st1
                  clear st2 st1 nums n2' n1' hR2 hR1 okU okT sU sT nT sX sY sZ sV nZ nV okX okY okZ okV hT' ri qy
                  go_upto_region 24 with fail
                  refine wp_worldS (fun WW => RI 3 35 W6 WW gu gv U Z V v u (L2.take (2 * j + k)) (L1.take (2 * j + k)) ∧ XE 3 35 WW wr.heap.size T.1 T.2 1200) ⟨HRI.out.below (below_alloc _ _), XE.made rfl HQY.out⟩ ?_
                  intro W9 ⟨ri, xt⟩
                  obtain ⟨gt, hgt⟩ : ∃ g, g = wr.heap.size := ⟨_, rfl⟩
                  rw [← hgt] at xt ⊢
                  obtain ⟨n5, b5, k5, o5, r5, x0, x1, x2, x3, -, -, -, -, -, q5⟩ := id ri.2.1
                  obtain ⟨n6, b6, k6, o6, r6, t0, t1, t2, t3, -, -, -, -, -, q6⟩ := id xt
                  have HU9 := hid (show EX 3 W9 U.1 U.2 1200 (.agg #[.bool n5, .slice b5 k5 o5, .int .i64 r5, .int .i64 U.1]) from ⟨_, _, _, _, _, rfl, q5⟩)
                  have HT9 := hid (show EX 3 W9 T.1 T.2 1200 (.agg #[.bool n6, .slice b6 k6 o6, .int .i64 r6, .int .i64 T.1]) from ⟨_, _, _, _, _, rfl, q6⟩)
                  have HRI9 := hid ri
                  have HXT := hid xt
                  clear ri xt q5 q6 HRI HQY y0 y1 y2 y3 hgt
                  go_wp2_with fail
                  refine (CQ2.out _ _ _ HU9.out HT9.out).mono ?_
                  rintro e w1 ⟨n7, b7, k7, o7, r7, y7, rfl, hb1⟩
                  go_upto_region 25 with fail
                  refine wp_worldS (fun WW => RI 3 35 W6 WW gu gv U Z V v u (L2.take (2 * j + k)) (L1.take (2 * j + k)) ∧ XV WW gu (.bool n5) (.slice b5 k5 o5) (.int .i64 r5) (.int .i64 U.1) ∧ XV WW gt (.bool n6) (.slice b6 k6 o6) (.int .i64 r6) (.int .i64 T.1) ∧ EX 3 WW U.1 U.2 1200 (.agg #[.bool n5, .slice b5 k5 o5, .int .i64 r5, .int .i64 U.1]) ∧ EX 3 WW T.1 T.2 1200 (.agg #[.bool n6, .slice b6 k6 o6, .int .i64 r6, .int .i64 T.1]))
                    ⟨(HRI9.out.below hb1).below (below_alloc _ _), ((show XV W9 gu _ _ _ _ from ⟨x0, x1, x2, x3⟩).below hb1).below (below_alloc _ _), ((show XV W9 gt _ _ _ _ from ⟨t0, t1, t2, t3⟩).below hb1).below (below_alloc _ _), (HU9.out.below hb1).below (below_alloc _ _), (HT9.out.below hb1).below (below_alloc _ _)⟩ ?_
                  intro W10 ⟨ri, ⟨x0', x1', x2', x3'⟩, ⟨t0', t1', t2', t3'⟩, hu, ht⟩
                  have HRI10 := hid ri
                  have HU10 := hid hu
                  have HT10 := hid ht
                  clear ri hu ht HRI9 HU9 HT9 HXT x0 x1 x2 x3 t0 t1 t2 t3 hb1 CQ2
                  go_wp2_with fail
                  refine (CQ1.out _ _ _ HU10.out HT10.out).mono ?_
                  rintro e w2 ⟨n8, b8, k8, o8, r8, y8, rfl, hb2⟩
                  go_upto_region 26 with fail
                  refine wp_worldS (fun WW => RI 3 35 W6 WW gu gv U Z V v u (L2.take (2 * j + k)) (L1.take (2 * j + k))) ((HRI10.out.below hb2).below (below_alloc _ _)) ?_
                  intro W11 ri
                  have HRI11 := hid ri
                  clear ri HRI10 HU10 HT10 x0' x1' x2' x3' t0' t1' t2' t3' hb2 CQ1
                  have hne' : (35 : TypeId) ≠ 3 := by decide
                  have l2 : (L2.take (2 * j + k)).length ≤ 1000 := by rw [List.length_take]; omega
                  have l1 : (L1.take (2 * j + k)).length ≤ 1000 := by rw [List.length_take]; omega
                  go_wp2_with fail
                  refine (CE2.out _).mono ?_
                  rintro e w3 ⟨a3, rfl, ⟨n9, b9, k9, o9, r9, rfl, q9⟩, hb3⟩
                  have HQ9 := hid ((q9.weak (A' := 6000) (T' := 5900) (by omega) (by omega)).below (below_alloc w3 (.cells #[.bool n9, .slice b9 k9 o9, .int .i64 r9, .int .i64 (exW R2)] 35)))
                  have HRI12 := hid ((HRI11.out.below hb3).below (below_alloc w3 (.cells #[.bool n9, .slice b9 k9 o9, .int .i64 r9, .int .i64 (exW R2)] 35)))
                  have hxv : XV (w3.alloc (.cells #[.bool n9, .slice b9 k9 o9, .int .i64 r9, .int .i64 (exW R2)] 35)) w3.heap.size (.bool n9) (.slice b9 k9 o9) (.int .i64 r9) (.int .i64 (exW R2)) := XV.made
                  have HXV := hid hxv
                  clear q9 hb3 HRI11 hxv
                  go_wp2_with (at_builtin; go_loud (refine wpList_pushX ext_slice _ ext_info rfl hne' rfl _ _ rfl W6.heap.size (L2.take (2 * j + k)) v rfl HRI12.out.1.2.1 w3.heap.size rfl n9 b9 k9 o9 r9 (exW R2) (exD R2) HQ9.out HXV.out.1 HXV.out.2.1 HXV.out.2.2.1 HXV.out.2.2.2 l2 HRI12.out.1.1.size ?_; intro v1 w4 xo gr ow))
                  have HRI13 := hid (HRI12.out.first hne' xo gr ow)
                  clear HQ9 HRI12 HXV xo gr ow
                  refine (CE1.out _).mono ?_
                  rintro e w5 ⟨a3, rfl, ⟨m0, c0, d0, f0, i0, rfl, q9⟩, hb3⟩
                  have HQ9 := hid ((q9.weak (A' := 6000) (T' := 5900) (by omega) (by omega)).below (below_alloc w5 (.cells #[.bool m0, .slice c0 d0 f0, .int .i64 i0, .int .i64 (exW R1)] 35)))
                  have HRI14 := hid ((HRI13.out.below hb3).below (below_alloc w5 (.cells #[.bool m0, .slice c0 d0 f0, .int .i64 i0, .int .i64 (exW R1)] 35)))
                  have hxv : XV (w5.alloc (.cells #[.bool m0, .slice c0 d0 f0, .int .i64 i0, .int .i64 (exW R1)] 35)) w5.heap.size (.bool m0) (.slice c0 d0 f0) (.int .i64 i0) (.int .i64 (exW R1)) := XV.made
                  have HXV := hid hxv
                  clear q9 hb3 HRI13 hxv
                  go_wp2_with (at_builtin; go_loud (refine wpList_pushX ext_slice _ ext_info rfl hne' rfl _ _ rfl W6.heap.size (L1.take (2 * j + k)) u rfl HRI14.out.1.2.2.1 w5.heap.size rfl m0 c0 d0 f0 i0 (exW R1) (exD R1) HQ9.out HXV.out.1 HXV.out.2.1 HXV.out.2.2.1 HXV.out.2.2.2 l1 HRI14.out.1.1.size ?_; intro v2 w6 xo gr ow))
                  have HRI15 := hid (HRI14.out.second hne' xo gr ow)
                  clear HQ9 HRI14 HXV xo gr ow
                  go_roundw
                  case rel =>
                    have e := HRI15.out
                    rw [show ((exW R2, exD R2) : Int × Dy) = exP R2 from rfl, show ((exW R1, exD R1) : Int × Dy) = exP R1 from rfl, ← HS2.out, ← HS1.out] at e
                    exact ⟨k + 1, _, _, rfl, rfl, by go_num, by omega, e⟩
                  case measure => simp [intOf]; omega
                · have hk3 : k = 2 := by omega
                  subst hk3
                  have g2 : ¬ ((2 : Nat) : Int) < 2 := by omega
                  go_wp2_with fail
                  go_roundw
                  case rel => exact ⟨j + 1, _, _, rfl, rfl, by go_num, by omega, ri.1⟩
                  case measure => simp [intOf]; omega
            · have hj3 : j = 2 := by omega
              subst hj3
              have g1 : ¬ ((2 : Nat) : Int) < 2 := by omega
              have f2 : L2.take (2 * 2) = L2 := by rw [HL2.out]; rfl
              have f1 : L1.take (2 * 2) = L1 := by rw [HL1.out]; rfl
              rw [f2, f1] at rs
              have e2 : L2.length = 4 := by rw [HL2.out]; rfl
              have e1 : L1.length = 4 := by rw [HL1.out]; rfl
              obtain ⟨ga, ca, rfl, xa⟩ := rs.2.1.xl (by omega)
              obtain ⟨gb, cb, rfl, xb⟩ := rs.2.2.1.xl (by omega)
              have CF2 := hid (fun (W : World) (g cap : Nat) (a : XL 3 W g L2) => furthest_any L2 g cap W a (by omega) (by omega))
              have CF1 := hid (fun (W : World) (g cap : Nat) (a : XL 3 W g L1) => furthest_any L1 g cap W a (by omega) (by omega))
              rw [e2] at CF2 ⊢
              rw [e1] at CF1 ⊢
              obtain ⟨fq1, fq2⟩ := four_ok (exP_ok (qeX X.1 X.2 Z.1 Z.2 2)) (exP_ok (qeX X.1 X.2 V.1 V.2 2)) (exP_ok (qeX Y.1 Y.2 Z.1 Z.2 2)) (exP_ok (qeX Y.1 Y.2 V.1 V.2 2))
              obtain ⟨fq3, fq4⟩ := four_ok (exP_ok (qeX X.1 X.2 Z.1 Z.2 1)) (exP_ok (qeX X.1 X.2 V.1 V.2 1)) (exP_ok (qeX Y.1 Y.2 Z.1 Z.2 1)) (exP_ok (qeX Y.1 Y.2 V.1 V.2 1))
              have hqf := HQF.out
              rw [← HL2.out] at fq1 fq2
              rw [← HL1.out] at fq3 fq4
              rw [← HL2.out, ← HL1.out] at hqf
              obtain ⟨q1e, q2e⟩ := hqf
              have CO4 := hid (outP_any (lowF L2 4) (highF L1 4) fq1 fq4 q1 q2 q1e q2e)
              have HXA := hid xa
              have HXB := hid xb
              have HM := hid (And.intro (HMS6.out.below rs.1) rs.1)
              clear fq1 fq2 fq3 fq4 q1e q2e xa xb rs f2 f1 e2 e1 HQF HL2 HL1 HSM HQN HXR6 HMX6
              go_wp2_with fail
              refine (CF2.out _ _ _ HXA.out).mono ?_
              rintro e w1 ⟨p9, s9, rfl, ⟨n5, b5, k5, o5, r5, rfl, q5⟩, ⟨n6, b6, k6, o6, r6, rfl, q6⟩, hb1⟩
              go_upto_region 30 with fail
              refine wp_worldS (fun WW => MS w WW gS gD gP gQ s1 s2 d1 d2 p1 p2 q1 q2 ∧ XE 3 35 WW w1.heap.size (lowF L2 4).1 (lowF L2 4).2 6000 ∧ XL 3 WW gb L1)
                ⟨((HM.out.1.below hb1).below (below_alloc _ _)).below (below_alloc _ _), (XE.made rfl q5).below (below_alloc _ _), ((HXB.out.below hb1).below (below_alloc _ _)).below (below_alloc _ _)⟩ ?_
              intro W13 ⟨ms, xe, xb⟩
              obtain ⟨ge, hge⟩ : ∃ g, g = w1.heap.size := ⟨_, rfl⟩
              rw [← hge] at xe ⊢
              have HMS13 := hid ms
              have HXE := hid xe
              have HXB2 := hid xb
              clear ms xe xb HXA HXB HM hb1 hge q5 q6 CF2
              go_wp2_with fail
              refine (CF1.out _ _ _ HXB2.out).mono ?_
              rintro e w2 ⟨p8, s8, rfl, ⟨n7, b7, k7, o7, r7, rfl, q7⟩, ⟨n8, b8, k8, o8, r8, rfl, q8⟩, hb2⟩
              go_upto_region 31 with fail
              have t1 : XE 3 35 ((w2.alloc (.cells #[.bool n7, .slice b7 k7 o7, .int .i64 r7, .int .i64 (lowF L1 4).1] 35)).alloc (.cells #[.bool n8, .slice b8 k8 o8, .int .i64 r8, .int .i64 (highF L1 4).1] 35)) (w2.heap.size + 1) (highF L1 4).1 (highF L1 4).2 6000 := XE.made (by first | omega | (simp; done) | (simp; omega)) (q8.below (below_alloc _ _))
              refine wp_worldS (fun WW => MS w WW gS gD gP gQ s1 s2 d1 d2 p1 p2 q1 q2 ∧ XE 3 35 WW ge (lowF L2 4).1 (lowF L2 4).2 6000 ∧ XE 3 35 WW (w2.heap.size + 1) (highF L1 4).1 (highF L1 4).2 6000)
                ⟨((HMS13.out.below hb2).below (below_alloc _ _)).below (below_alloc _ _), ((HXE.out.below hb2).below (below_alloc _ _)).below (below_alloc _ _), t1⟩ ?_
              intro W14 ⟨ms, xe, xf⟩
              obtain ⟨gf, hgf⟩ : ∃ g, g = w2.heap.size + 1 := ⟨_, rfl⟩
              rw [← hgf] at xf ⊢
              obtain ⟨n9, b9, k9, o9, r9, x0, x1, x2, x3, -, -, -, -, -, q9⟩ := xe
              obtain ⟨m0, c0, d0, f0, i0, y0, y1, y2, y3, -, -, -, -, -, q0⟩ := xf
              have zE : XV W14 ge (.bool n9) (.slice b9 k9 o9) (.int .i64 r9) (.int .i64 (lowF L2 4).1) := ⟨x0, x1, x2, x3⟩
              have zF : XV W14 gf (.bool m0) (.slice c0 d0 f0) (.int .i64 i0) (.int .i64 (highF L1 4).1) := ⟨y0, y1, y2, y3⟩
              have HE9 := hid (show EX 3 W14 (lowF L2 4).1 (lowF L2 4).2 6000 (.agg #[.bool n9, .slice b9 k9 o9, .int .i64 r9, .int .i64 (lowF L2 4).1]) from ⟨_, _, _, _, _, rfl, q9⟩)
              have HF9 := hid (show EX 3 W14 (highF L1 4).1 (highF L1 4).2 6000 (.agg #[.bool m0, .slice c0 d0 f0, .int .i64 i0, .int .i64 (highF L1 4).1]) from ⟨_, _, _, _, _, rfl, q0⟩)
              have HMS14 := hid ms
              clear ms q9 q0 t1 q7 q8 HMS13 HXE HXB2 hb2 CF1 hgf x0 x1 x2 x3 y0 y1 y2 y3
              generalize lowF L2 4 = LO at *
              generalize highF L1 4 = HI at *
              refine wp_region_grow 10 [237, 238, 239, 240, 241, 242, 243, 244, 245, 246] [Fact.is (.agg #[.int .u64 q1, .int .u64 q2]), Fact.is (.func (.func 15) #[] #[]), Fact.is (.agg #[.bool n9, .slice b9 k9 o9, .int .i64 r9, .int .i64 LO.1]), Fact.is (.agg #[.bool m0, .slice c0 d0 f0, .int .i64 i0, .int .i64 HI.1]), Fact.is (.agg #[.int .u64 q1, .int .u64 q2]), Fact.is (.bool true), Fact.is (.bool true), Fact.is (.int .i64 0), Fact.is (.bool true), Fact.is (.bool true)] (by kernel_rfl) (by kernel_rfl) ⟨?o0, ?o1, ?o2, ?o3, ?o4, ?o5, ?o6, ?o7, ?o8, ?o9, trivial⟩ ?after
              case o0 => (refine StepOK.plain rfl ?_; intro ρ w1 R hρ hb hp hR; have e11 : ρ (.tmp 11) = .pointer (some ⟨gQ, 0, none⟩) := hρ.tmp 11 rfl; obtain ⟨-, -, -, -, ⟨j0, j1, -, -⟩⟩ := HMS14.out.below hb; have hcon := hρ.con; have hfn := hρ.fn; clear hρ hp; unfold OpRun; go_simp; exact hR _ _ (Below.refl _ _) rfl)
              case o1 => (refine StepOK.plain rfl ?_; intro ρ w1 R hρ hb hp hR; have e19 : ρ (.tmp 19) = .func (.func 15) #[] #[] := hρ.tmp 19 rfl; have hcon := hρ.con; have hfn := hρ.fn; clear hρ hp; unfold OpRun; go_simp; exact hR _ _ (Below.refl _ _) rfl)
              case o2 => (refine StepOK.plain rfl ?_; intro ρ w1 R hρ hb hp hR; have e30 : ρ (.tmp 30) = .pointer (some ⟨ge, 0, none⟩) := hρ.tmp 30 rfl; obtain ⟨j0, j1, j2, j3⟩ := zE.below hb; have hcon := hρ.con; have hfn := hρ.fn; clear hρ hp; unfold OpRun; go_simp; exact hR _ _ (Below.refl _ _) rfl)
              case o3 => (refine StepOK.plain rfl ?_; intro ρ w1 R hρ hb hp hR; have e33 : ρ (.tmp 33) = .pointer (some ⟨gf, 0, none⟩) := hρ.tmp 33 rfl; obtain ⟨j0, j1, j2, j3⟩ := zF.below hb; have hcon := hρ.con; have hfn := hρ.fn; clear hρ hp; unfold OpRun; go_simp; exact hR _ _ (Below.refl _ _) rfl)
              case o4 => (refine StepOK.plain rfl ?_; intro ρ w1 R hρ hb hp hR; have e238 : ρ (.tmp 238) = _ := hp 1 238 rfl rfl; have e239 : ρ (.tmp 239) = _ := hp 2 239 rfl rfl; have e240 : ρ (.tmp 240) = _ := hp 3 240 rfl rfl; have hcon := hρ.con; have hfn := hρ.fn; clear hρ hp; unfold OpRun; go_simp; (refine (CO4.out _ _ _ (HE9.out.below hb) (HF9.out.below hb)).mono ?_; rintro e wn ⟨rfl, hbn⟩; exact ⟨_, rfl, hR _ _ hbn rfl⟩))
              case o5 => (refine StepOK.plain rfl ?_; intro ρ w1 R hρ hb hp hR; have e237 : ρ (.tmp 237) = _ := hp 0 237 rfl rfl; have e241 : ρ (.tmp 241) = _ := hp 4 241 rfl rfl; have hcon := hρ.con; have hfn := hρ.fn; clear hρ hp; unfold OpRun; go_simp; exact hR _ _ (Below.refl _ _) rfl)
              case o6 => (refine StepOK.plain rfl ?_; intro ρ w1 R hρ hb hp hR; have e242 : ρ (.tmp 242) = _ := hp 5 242 rfl rfl; have hcon := hρ.con; have hfn := hρ.fn; clear hρ hp; unfold OpRun; go_simp; exact hR _ _ (Below.refl _ _) rfl)
              case o7 => (intro ρ w1 R hρ hb hp hR; have eg : ρ (.tmp 243) = .bool true := hp 6 243 rfl rfl; refine ⟨fun _ => ?_, fun hg => absurd hg (by simp [guardOf, eg])⟩; clear eg; have e12 : ρ (.tmp 12) = .int .i64 0 := hρ.tmp 12 rfl; have hcon := hρ.con; have hfn := hρ.fn; clear hρ hp; unfold OpRun; go_simp; exact hR _ _ (Below.refl _ _) rfl)
              case o8 => (intro ρ w1 R hρ hb hp hR; have eg : ρ (.tmp 243) = .bool true := hp 6 243 rfl rfl; refine ⟨fun _ => ?_, fun hg => absurd hg (by simp [guardOf, eg])⟩; clear eg; have e244 : ρ (.tmp 244) = _ := hp 7 244 rfl rfl; have hcon := hρ.con; have hfn := hρ.fn; clear hρ hp; unfold OpRun; go_simp; exact hR _ _ (Below.refl _ _) rfl)
              case o9 => (refine StepOK.plain rfl ?_; intro ρ w1 R hρ hb hp hR; have e243 : ρ (.tmp 243) = _ := hp 6 243 rfl rfl; have e245 : ρ (.tmp 245) = _ := hp 8 245 rfl rfl; have hcon := hρ.con; have hfn := hρ.fn; clear hρ hp; unfold OpRun; go_simp; exact hR _ _ (Below.refl _ _) rfl)
              case after =>
                intro u wn hb hf
                have e246 : u 246 = _ := hf 9 246 (by omega) rfl
                clear hf
                simp only [putAll, Act.put, List.setIfInBounds_toArray, List.set_cons_zero, List.set_cons_succ, List.drop_succ_cons, List.drop_zero, List.drop_nil]
                rw [e246]
                have y9 := (HMS14.out.below hb).1
                clear HMS14 HE9 HF9 zE zF CO4 hb
                go_wp2_with fail
                go_ret
                exact ⟨rfl, y9⟩
theorem spanSums_walk (al ah bl bh : Int) (hal : U64 al) (hah : U64 ah) (hbl : U64 bl) (hbh : U64 bh) (w : World) (hT : Tab 1 w) :
    Calls Tryz.prog 3 #[.agg #[.int .u64 al, .int .u64 ah], .agg #[.int .u64 bl, .int .u64 bh]] w fun e w' => e = .returned (.bool true) ∧ Below w.heap.size w w' := by
  obtain ⟨l, rfl⟩ := Int.eq_ofNat_of_zero_le hal.1
  obtain ⟨h, rfl⟩ := Int.eq_ofNat_of_zero_le hah.1
  obtain ⟨m, rfl⟩ := Int.eq_ofNat_of_zero_le hbl.1
  obtain ⟨i, rfl⟩ := Int.eq_ofNat_of_zero_le hbh.1
  exact spanSums_nat l h m i (by have := hal.2; omega) (by have := hah.2; omega) (by have := hbl.2; omega) (by have := hbh.2; omega) w hT
end Go.Proofs.YtfphmlmgjhebjaaGreatDoor
