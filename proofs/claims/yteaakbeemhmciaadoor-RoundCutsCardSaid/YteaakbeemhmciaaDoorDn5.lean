/- dyad: comparison, bounds. -/
import Derived.Test.YteaakbeemhmciaaDoorDn4
namespace Go.Ulp
open Go.RowKit
theorem dSign_sgn (x : Int) : dSign (decide (x < 0)) (limbs x.natAbs).length = sgn x := by
  unfold dSign sgn cmpI
  by_cases h0 : x = 0
  · subst h0; rfl
  · have : (limbs x.natAbs).length ≠ 0 := fun h => h0 ((dy_len (x, 0)).1 h)
    rw [if_neg this]
    by_cases h : x < 0
    · rw [if_pos (decide_eq_true h), if_pos h]
    · rw [if_neg (by simp [h]), if_neg h, if_pos (by omega)]
/-- within the bounds? -/
def bndB (D : Dy) : Bool := dyB (limbs D.1.natAbs).length D.2
/-- what bounded hands back: the number, or none with the error -/
def RetBd (w : World) (D : Dy) (e : Ending) (w' : World) : Prop :=
  ∃ v, e = .returned (.tuple #[v, .int .i64 (if bndB D = true then 0 else 2)]) ∧ VD w' (if bndB D = true then D else (0, 0)) v ∧ Below w.heap.size w w'
end Go.Ulp
namespace Go.Proofs.YteaakbeemhmciaaDoor
open Go.RowKit Go.Ulp
set_option linter.unusedVariables false
set_option linter.unusedSimpArgs false
set_option maxHeartbeats 1000000
set_option maxRecDepth 100000
theorem compareD_any (v u : Value) (D E : Dy) (w : World) (hv : VD w D v) (hu : VD w E u) (hl : (limbs D.1.natAbs).length ≤ 100000) (hl' : (limbs E.1.natAbs).length ≤ 100000) (he : -1000000 ≤ D.2 ∧ D.2 ≤ 1000000) (he' : -1000000 ≤ E.2 ∧ E.2 ≤ 1000000) (hT : Tab 0 w) :
    Calls Tryd.prog 120 #[v, u] w fun e w' => e = .returned (.int .i64 (cmpD D E)) ∧ Below w.heap.size w w' := by
  have HV := hid (fun w' (hb : Below w.heap.size w w') => hv.below hb)
  have HU := hid (fun w' (hb : Below w.heap.size w w') => hu.below hb)
  have HT := hid hT
  obtain ⟨am, cm, rfl, hN⟩ := hv
  obtain ⟨bm, dm, rfl, hM⟩ := hu
  have OP := hid (fun w' hb => opp_any _ E w' (HU.out w' hb) (by omega))
  have PL := hid (fun v' w' (hb : Below w.heap.size w w') (h : VD w' (negD E) v') => plusD_any _ v' D (negD E) w' (HV.out w' hb) h hl (by rw [negD_abs]; exact hl') he he' (HT.out.below hb))
  have SG := hid (show ∀ v w, VD w (addD D (negD E)) v → Calls Tryd.prog 164 #[v] w fun en w' => en = .returned (.int .i64 (cmpD D E)) ∧ Below w.heap.size w w' from fun v w h => by
    obtain ⟨a, c, rfl, h2⟩ := h
    rw [cmpD_sub, ← dSign_sgn]
    exact dyadSign_any _ _ _ _ _ w)
  generalize cmpD D E = cv at *
  generalize addD D (negD E) = S at *
  generalize negD E = N at *
  generalize D.1.natAbs = M0 at *
  generalize E.1.natAbs = M1 at *
  generalize decide (D.1 < 0) = n0 at *
  generalize decide (E.1 < 0) = n1 at *
  generalize D.2 = e0 at *
  generalize E.2 = e1 at *
  clear hN hM hT HV HU
  have zA : QL 25 ((w.alloc (.cells #[.bool n0, .slice am (limbs M0).length cm, .int .i64 e0] 25)).alloc (.cells #[.bool n1, .slice bm (limbs M1).length dm, .int .i64 e1] 25)) w.heap.size n0 (.slice am (limbs M0).length cm) e0 := (QL.made rfl).alloc _
  have zB : QL 25 ((w.alloc (.cells #[.bool n0, .slice am (limbs M0).length cm, .int .i64 e0] 25)).alloc (.cells #[.bool n1, .slice bm (limbs M1).length dm, .int .i64 e1] 25)) (w.heap.size + 1) n1 (.slice bm (limbs M1).length dm) e1 := QL.made (by first | omega | (simp; done) | (simp; omega))
  have yb0 : Below w.heap.size w ((w.alloc (.cells #[.bool n0, .slice am (limbs M0).length cm, .int .i64 e0] 25)).alloc (.cells #[.bool n1, .slice bm (limbs M1).length dm, .int .i64 e1] 25)) := by (repeat' (first | (with_reducible assumption) | (with_reducible exact Below.refl _ _) | (with_reducible refine below_al ?_ _) | (with_reducible refine below_drewN ?_ _) | (with_reducible refine Below.drew ?_) | (with_reducible refine Below.alloc ?_ ?_ _) | (with_reducible refine Below.setCell ?_ ?_ _) | (refine below_trans ?_ (by assumption)) | go_size))
  go_enter Tryd.func120, Tryd.ntmps120
  go_upto_region 1 with fail
  refine wp_region_grow 6 [5, 6, 7, 8, 9, 4] [Fact.is (.agg #[.bool n0, .slice am (limbs M0).length cm, .int .i64 e0]), Fact.is (.agg #[.bool n1, .slice bm (limbs M1).length dm, .int .i64 e1]), Fact.vd N, Fact.vd S, Fact.is (.int .i64 cv), Fact.is (.int .i64 cv)] (by kernel_rfl) (by kernel_rfl) ⟨?o0, ?o1, ?o2, ?o3, ?o4, ?o5, trivial⟩ ?after
  case o0 => (refine StepOK.plain rfl ?_; intro ρ w1 R hρ hb hp hR; have e2 : ρ (.tmp 2) = .pointer (some ⟨w.heap.size, 0, none⟩) := hρ.tmp 2 rfl; obtain ⟨⟨j0, j1, -, -, -⟩, j2, -⟩ := zA.below hb; have hcon := hρ.con; have hfn := hρ.fn; clear hρ hp; unfold OpRun; go_simp; exact hR _ _ (Below.refl _ _) rfl)
  case o1 => (refine StepOK.plain rfl ?_; intro ρ w1 R hρ hb hp hR; have e3 : ρ (.tmp 3) = .pointer (some ⟨w.heap.size + 1, 0, none⟩) := hρ.tmp 3 rfl; obtain ⟨⟨j0, j1, -, -, -⟩, j2, -⟩ := zB.below hb; have hcon := hρ.con; have hfn := hρ.fn; clear hρ hp; unfold OpRun; go_simp; exact hR _ _ (Below.refl _ _) rfl)
  case o2 => (refine StepOK.plain rfl ?_; intro ρ w1 R hρ hb hp hR; have e6 : ρ (.tmp 6) = _ := hp 1 6 rfl rfl; have hcon := hρ.con; have hfn := hρ.fn; clear hρ hp; unfold OpRun; go_simp; (refine (OP.out _ (below_trans yb0 hb)).mono ?_; rintro e wn ⟨v9, rfl, hv9, hbn⟩; exact ⟨_, rfl, hR _ _ hbn hv9⟩))
  case o3 => (refine StepOK.plain rfl ?_; intro ρ w1 R hρ hb hp hR; have e5 : ρ (.tmp 5) = _ := hp 0 5 rfl rfl; have f7 := hp 2 7 rfl rfl; have hcon := hρ.con; have hfn := hρ.fn; clear hρ hp; unfold OpRun; go_simp; (refine (PL.out _ _ (below_trans yb0 hb) f7).mono ?_; rintro e wn ⟨v9, rfl, hv9, hbn⟩; exact ⟨_, rfl, hR _ _ hbn hv9⟩))
  case o4 => (refine StepOK.plain rfl ?_; intro ρ w1 R hρ hb hp hR; have f8 := hp 3 8 rfl rfl; have hcon := hρ.con; have hfn := hρ.fn; clear hρ hp; unfold OpRun; go_simp; (refine (SG.out _ _ f8).mono ?_; rintro e wn ⟨rfl, hbn⟩; exact ⟨_, rfl, hR _ _ hbn rfl⟩))
  case o5 => (refine StepOK.plain rfl ?_; intro ρ w1 R hρ hb hp hR; have e9 : ρ (.tmp 9) = _ := hp 4 9 rfl rfl; have hcon := hρ.con; have hfn := hρ.fn; clear hρ hp; unfold OpRun; go_simp; exact hR _ _ (Below.refl _ _) rfl)
  case after =>
    intro u wn hb hf
    have e4 : u 4 = _ := hf 5 4 (by omega) rfl
    clear hf
    simp only [putAll, Act.put, List.setIfInBounds_toArray, List.set_cons_zero, List.set_cons_succ, List.drop_succ_cons, List.drop_zero, List.drop_nil]
    rw [e4]
    go_wp2_with fail
    go_ret
    exact ⟨rfl, below_trans yb0 hb⟩
theorem bounded_any (v : Value) (D : Dy) (w : World) (hv : VD w D v) : Calls Tryd.prog 98 #[v] w (RetBd w D) := by
  obtain ⟨am, cm, rfl, hN⟩ := hv
  have HN := hid hN
  have BD := hid (fun w => bounds_any (decide (D.1 < 0)) am (limbs D.1.natAbs).length cm D.2 w)
  have yb0 : Below w.heap.size w ((w.alloc (.cells #[.bool (decide (D.1 < 0)), .slice am (limbs D.1.natAbs).length cm, .int .i64 D.2] 25)).alloc (.cells #[.bool false, .slice none 0 0, .int .i64 0] 25)) := by (repeat' (first | (with_reducible assumption) | (with_reducible exact Below.refl _ _) | (with_reducible refine below_al ?_ _) | (with_reducible refine below_drewN ?_ _) | (with_reducible refine Below.drew ?_) | (with_reducible refine Below.alloc ?_ ?_ _) | (with_reducible refine Below.setCell ?_ ?_ _) | (refine below_trans ?_ (by assumption)) | go_size))
  have zA0 : QL 25 ((w.alloc (.cells #[.bool (decide (D.1 < 0)), .slice am (limbs D.1.natAbs).length cm, .int .i64 D.2] 25)).alloc (.cells #[.bool false, .slice none 0 0, .int .i64 0] 25)) w.heap.size (decide (D.1 < 0)) (.slice am (limbs D.1.natAbs).length cm) D.2 := (QL.made rfl).alloc _
  have zR0 : QL 25 ((w.alloc (.cells #[.bool (decide (D.1 < 0)), .slice am (limbs D.1.natAbs).length cm, .int .i64 D.2] 25)).alloc (.cells #[.bool false, .slice none 0 0, .int .i64 0] 25)) (w.heap.size + 1) false (.slice none 0 0) 0 := QL.made (by first | omega | (simp; done) | (simp; omega))
  cases hB : bndB D
  · have hb0 : bndE (limbs D.1.natAbs).length D.2 = 2 := bndE_false hB
    have HR : Hid (∀ v w', VD w' (0, 0) v → Below w.heap.size w w' → RetBd w D (.returned (.tuple #[v, .int .i64 2])) w') := hid (fun v w' h hb => ⟨v, by rw [hB]; rfl, by rw [hB]; exact h, hb⟩)
    rw [hb0] at BD
    generalize RetBd w D = RB at *
    generalize D.1.natAbs = M0 at *
    generalize decide (D.1 < 0) = n0 at *
    generalize D.2 = e0 at *
    clear hN hB hb0
    go_enter Tryd.func98, Tryd.ntmps98
    obtain ⟨⟨j0, j1, -, -, -⟩, j2, -⟩ := id zA0
    go_wp2_with (go_at_call 100; (with_reducible refine (BD.out _).mono ?_); rintro en w3 ⟨rfl, hb3⟩; have zR3 := zR0.below hb3; have yb3 := below_trans yb0 hb3; obtain ⟨⟨k0, k1, f0, f1, hs2⟩, k2, f2⟩ := id zR3)
    refine bodyPost_ret (by simp [results, Tryd.results98, go_sem, k0, k1, k2]; try rfl) rfl ?_
    exact HR.out _ _ ⟨none, 0, rfl, Ns.nil⟩ (((yb3.setCell (by first | omega | (simp; done) | (simp; omega)) _).setCell (by first | omega | (simp; done) | (simp; omega)) _).setCell (by first | omega | (simp; done) | (simp; omega)) _)
  · have hb0 : bndE (limbs D.1.natAbs).length D.2 = 0 := bndE_true hB
    have HR : Hid (∀ am cm w', Ns .u32 w' am cm (limbs D.1.natAbs) → Below w.heap.size w w' → RetBd w D (.returned (.tuple #[.agg #[.bool (decide (D.1 < 0)), .slice am (limbs D.1.natAbs).length cm, .int .i64 D.2], .int .i64 0])) w') := hid (fun am cm w' h hb => ⟨_, by rw [hB]; rfl, by rw [hB]; exact ⟨am, cm, rfl, h⟩, hb⟩)
    rw [hb0] at BD
    generalize RetBd w D = RB at *
    generalize D.1.natAbs = M0 at *
    generalize decide (D.1 < 0) = n0 at *
    generalize D.2 = e0 at *
    clear hN hB hb0
    go_enter Tryd.func98, Tryd.ntmps98
    go_wp2_with (go_at_call 100; (with_reducible refine (BD.out _).mono ?_); rintro en w3 ⟨rfl, hb3⟩; have zR3 := zR0.below hb3; have zA3 := zA0.below hb3; have yb3 := below_trans yb0 hb3; obtain ⟨⟨k0, k1, f0, f1, hs2⟩, k2, f2⟩ := id zR3; obtain ⟨⟨j0, j1, -, -, -⟩, j2, -⟩ := id zA3)
    refine bodyPost_ret (by simp [results, Tryd.results98, go_sem, k0, k1, k2]; try rfl) rfl ?_
    exact HR.out _ _ _ ((HN.out.below yb3).set3 zR3 (by intro x h; cases h) _ _ _) (((yb3.setCell (by first | omega | (simp; done) | (simp; omega)) _).setCell (by first | omega | (simp; done) | (simp; omega)) _).setCell (by first | omega | (simp; done) | (simp; omega)) _)
end Go.Proofs.YteaakbeemhmciaaDoor
