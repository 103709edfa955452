/- dyad: the opposite, the product. -/
import Derived.Test.YteaakbeemhmciaaDoorDn1
import Derived.Test.YteaakbeemhmciaaDoorReg
import Derived.Test.YteaakbeemhmciaaDoorNat13b
namespace Go.Ulp
open Go.RowKit
theorem negD_abs (D : Dy) : (negD D).1.natAbs = D.1.natAbs := by unfold negD; exact Int.natAbs_neg _
theorem dy_len (D : Dy) : (limbs D.1.natAbs).length = 0 ↔ D.1 = 0 := by
  rw [List.length_eq_zero_iff, limbs_nil]; omega
/-- a Dyad of value D among the values of a region; a number's limbs -/
def Fact.vd (D : Dy) : Fact := ⟨fun v w => VD w D v, fun _ _ _ h hb => h.below hb⟩
def Fact.li (m : Nat) : Fact := ⟨fun v w => ∃ ao cap, v = .slice ao (limbs m).length cap ∧ Ns .u32 w ao cap (limbs m), fun _ _ _ h hb => by
  obtain ⟨ao, cap, h1, h2⟩ := h
  exact ⟨ao, cap, h1, h2.below hb⟩⟩
theorem sg_mul_abs (x y : Int) : sg (decide (x < 0) != decide (y < 0)) ((x.natAbs * y.natAbs : Nat) : Int) = x * y := by
  have h : ((x.natAbs * y.natAbs : Nat) : Int) = (x.natAbs : Int) * (y.natAbs : Int) := Int.natCast_mul _ _
  rw [h]
  rcases Int.lt_or_le x 0 with hx | hx <;> rcases Int.lt_or_le y 0 with hy | hy
  · have e1 : (x.natAbs : Int) = -x := by omega
    have e2 : (y.natAbs : Int) = -y := by omega
    rw [decide_eq_true hx, decide_eq_true hy, e1, e2, Int.neg_mul_neg]; rfl
  · have e1 : (x.natAbs : Int) = -x := by omega
    have e2 : (y.natAbs : Int) = y := by omega
    rw [decide_eq_true hx, decide_eq_false (by omega), e1, e2]
    show -(-x * y) = x * y
    rw [Int.neg_mul, Int.neg_neg]
  · have e1 : (x.natAbs : Int) = x := by omega
    have e2 : (y.natAbs : Int) = -y := by omega
    rw [decide_eq_false (by omega), decide_eq_true hy, e1, e2]
    show -(x * -y) = x * y
    rw [Int.mul_neg, Int.neg_neg]
  · have e1 : (x.natAbs : Int) = x := by omega
    have e2 : (y.natAbs : Int) = y := by omega
    rw [decide_eq_false (by omega), decide_eq_false (by omega), e1, e2]; rfl
theorem Ns.setBool {w : World} {ao : Option Addr} {cap : Nat} {L : List Nat} {g : Nat} {n : Bool} (h : Ns .u32 w ao cap L) (hc : w.cell? ⟨g, 0, none⟩ = some (.bool n)) (u : Value) : Ns .u32 (w.setCell ⟨g, 0, none⟩ u) ao cap L :=
  Ns.setCell_kind h ⟨g, 0, none⟩ u (.bool n) hc (by intro x e; cases e)
theorem QL.farD {t : TypeId} {w : World} {g : Nat} {n : Bool} {v : Value} {k : Int} (h : QL t w g n v k) (a : Addr) (u : Value) (hne : g ≠ a.block) : QL t (w.setCell a u) g n v k := by
  refine ⟨h.1.far a u hne, ?_, ?_⟩
  · rw [World.cell?_setCell_other (h := fun e => hne (by rw [e]))]; exact h.2.1
  · rw [frozen_setCell]; exact h.2.2
theorem QL.set0D {t : TypeId} {w : World} {g : Nat} {n : Bool} {v : Value} {k : Int} (h : QL t w g n v k) (u : Bool) : QL t (w.setCell ⟨g, 0, none⟩ (.bool u)) g u v k :=
  ⟨h.1.set0 u, (cell_set_ne (by omega)).trans h.2.1, (frozen_setCell _ _ _ _).trans h.2.2⟩
theorem QL.set1D {t : TypeId} {w : World} {g : Nat} {n : Bool} {v : Value} {k : Int} (h : QL t w g n v k) (u : Value) : QL t (w.setCell ⟨g, 1, none⟩ u) g n u k :=
  ⟨h.1.set1 u, (cell_set_ne (by omega)).trans h.2.1, (frozen_setCell _ _ _ _).trans h.2.2⟩
theorem Ns.setSlice {w : World} {ao : Option Addr} {cap : Nat} {L : List Nat} {p : Addr} {a : Option Addr} {l c : Nat} (h : Ns .u32 w ao cap L) (hc : w.cell? p = some (.slice a l c)) (u : Value) : Ns .u32 (w.setCell p u) ao cap L :=
  Ns.setCell_kind h p u (.slice a l c) hc (by intro x e; cases e)
end Go.Ulp
namespace Go.Proofs.YteaakbeemhmciaaDoor
open Go.RowKit Go.Ulp
set_option linter.unusedVariables false
set_option linter.unusedSimpArgs false
set_option maxHeartbeats 1000000
set_option maxRecDepth 100000
theorem opp_any (v : Value) (D : Dy) (w : World) (hv : VD w D v) (hl : (limbs D.1.natAbs).length ≤ 1000000) :
    Calls Tryd.prog 118 #[v] w (RetVD w (negD D)) := by
  obtain ⟨am, cm, rfl, hN⟩ := hv
  have H := hid hN
  have CL := hid (fun w h => clone_any am cm D.1.natAbs w h (by omega))
  obtain ⟨ng, hng⟩ : ∃ b, b = decide (D.1 < 0) := ⟨_, rfl⟩
  have HR := hid (show ∀ am cm, Value.agg #[.bool (!ng && decide (0 < (limbs D.1.natAbs).length)), .slice am (limbs D.1.natAbs).length cm, .int .i64 D.2] = .agg #[.bool (decide ((negD D).1 < 0)), .slice am (limbs (negD D).1.natAbs).length cm, .int .i64 (negD D).2] from fun am cm => by
    rw [negD_abs]
    have : (!ng && decide (0 < (limbs D.1.natAbs).length)) = decide ((negD D).1 < 0) := by
      have h1 := dy_len D
      rw [Bool.eq_iff_iff, hng]
      simp only [Bool.and_eq_true, Bool.not_eq_true', decide_eq_true_eq, decide_eq_false_iff_not]
      show _ ↔ -D.1 < 0
      omega
    rw [this]; rfl)
  have HA := hid (negD_abs D)
  rw [← hng]
  have hcap := hN.1
  have hcap2 := hN.2.1
  unfold maxLen at hcap2
  obtain ⟨M, hM⟩ : ∃ M, M = D.1.natAbs := ⟨_, rfl⟩
  rw [← hM] at H CL HR HA hcap hl ⊢
  generalize D.2 = e at *
  clear hN hng hM
  have zA0 : QL 25 ((w.alloc (.cells #[.bool ng, .slice am (limbs M).length cm, .int .i64 e] 25)).alloc (.cells #[.bool false, .slice none 0 0, .int .i64 0] 25)) w.heap.size ng (.slice am (limbs M).length cm) e := (QL.made rfl).alloc _
  have zR0 : QL 25 ((w.alloc (.cells #[.bool ng, .slice am (limbs M).length cm, .int .i64 e] 25)).alloc (.cells #[.bool false, .slice none 0 0, .int .i64 0] 25)) (w.heap.size + 1) false (.slice none 0 0) 0 := QL.made (by first | omega | (simp; done) | (simp; omega))
  have yb0 : Below w.heap.size w ((w.alloc (.cells #[.bool ng, .slice am (limbs M).length cm, .int .i64 e] 25)).alloc (.cells #[.bool false, .slice none 0 0, .int .i64 0] 25)) := by (repeat' (first | (with_reducible assumption) | (with_reducible exact Below.refl _ _) | (with_reducible refine below_al ?_ _) | (with_reducible refine below_drewN ?_ _) | (with_reducible refine Below.drew ?_) | (with_reducible refine Below.alloc ?_ ?_ _) | (with_reducible refine Below.setCell ?_ ?_ _) | (refine below_trans ?_ (by assumption)) | go_size))
  go_enter Tryd.func118, Tryd.ntmps118
  go_upto_region 1 with fail
  obtain ⟨q, hq⟩ : ∃ b, b = (!ng && decide (0 < (limbs M).length)) := ⟨_, rfl⟩
  rw [← hq] at HR
  have HQ := hid hq
  clear hq
  go_cut [] (fun wx => QL 25 wx w.heap.size q (.slice am (limbs M).length cm) e ∧ QL 25 wx (w.heap.size + 1) false (.slice none 0 0) 0 ∧ Below w.heap.size w wx ∧ Ns .u32 wx am cm (limbs M))
  case first =>
    have hN0 := H.out.below yb0
    obtain ⟨W1, hW1⟩ : ∃ W, W = (w.alloc (.cells #[.bool ng, .slice am (limbs M).length cm, .int .i64 e] 25)).alloc (.cells #[.bool false, .slice none 0 0, .int .i64 0] 25) := ⟨_, rfl⟩
    rw [← hW1] at zA0 zR0 yb0 hN0 ⊢
    clear hW1
    obtain ⟨⟨j0, j1, f0, f1, s1⟩, j2, f2⟩ := id zA0
    cases ng
    · have H5 := hid (show q = decide (0 < (limbs M).length) by rw [HQ.out]; rfl)
      go_wp2_with fail
      go_meet
      rw [H5.out]
      exact ⟨zA0.set0D _, zR0.farD _ _ (by first | omega | (simp; done) | (simp; omega)), yb0.setCell (by first | omega | (simp; done) | (simp; omega)) _, hN0.setBool j0 _⟩
    · have H5 := hid (show q = false by rw [HQ.out]; rfl)
      go_wp2_with fail
      go_meet
      rw [H5.out]
      exact ⟨zA0.set0D _, zR0.farD _ _ (by first | omega | (simp; done) | (simp; omega)), yb0.setCell (by first | omega | (simp; done) | (simp; omega)) _, hN0.setBool j0 _⟩
  case rest =>
    obtain ⟨zA, zR, yb, hN1⟩ := hcut
    clear zA0 zR0 yb0
    obtain ⟨⟨j0, j1, f0, f1, s1⟩, j2, f2⟩ := id zA
    go_upto_region 3 with (go_at_call 162; (with_reducible refine (CL.out _ hN1).mono ?_); rintro en w3 ⟨a3, c3, rfl, hN3, hb3⟩; have zA3 := zA.below hb3; obtain ⟨⟨i0, i1, g0, g1, s3⟩, i2, g2⟩ := id zA3)
    have zR3 := zR.below hb3
    have yb3 := below_trans yb hb3
    obtain ⟨⟨k0, k1, h0, h1, s4⟩, k2, h2⟩ := id zR3
    have zR4 := zR3.farD ⟨w.heap.size, 1, none⟩ (.slice a3 (limbs M).length c3) (by first | omega | (simp; done) | (simp; omega))
    have hN4 := hN3.setSlice i1 (.slice a3 (limbs M).length c3)
    have yb4 := yb3.setCell (p := ⟨w.heap.size, 1, none⟩) (by first | omega | (simp; done) | (simp; omega)) (.slice a3 (limbs M).length c3)
    go_wp2_with fail
    refine bodyPost_ret (by simp [results, Tryd.results118, go_sem, k0, k1, k2]; try rfl) rfl ?_
    refine ⟨_, rfl, ⟨a3, c3, HR.out _ _, ?_⟩, ((yb4.setCell (by first | omega | (simp; done) | (simp; omega)) _).setCell (by first | omega | (simp; done) | (simp; omega)) _).setCell (by first | omega | (simp; done) | (simp; omega)) _⟩
    rw [HA.out]
    exact hN4.set3 zR4 (by intro x h; cases h) _ _ _
theorem timesD_any (v u : Value) (D E : Dy) (w : World) (hv : VD w D v) (hu : VD w E u) (hl : (limbs D.1.natAbs).length ≤ 100000) (hl' : (limbs E.1.natAbs).length ≤ 100000) (he : -100000000 ≤ D.2 ∧ D.2 ≤ 100000000) (he' : -100000000 ≤ E.2 ∧ E.2 ≤ 100000000) (hT : Tab 0 w) :
    Calls Tryd.prog 119 #[v, u] w (RetVD w (mulD D E)) := by
  obtain ⟨am, cm, rfl, hN⟩ := hv
  obtain ⟨bm, dm, rfl, hM⟩ := hu
  have HN := hid hN
  have HM := hid hM
  have HT := hid hT
  have TI := hid (fun w h0 h1 => times_any am bm cm dm D.1.natAbs E.1.natAbs w h0 h1 (by omega) (by omega))
  have hpl := limbs_len_mul D.1.natAbs E.1.natAbs _ _ hl hl'
  have NO := hid (show ∀ a c w, Ns .u32 w a c (limbs (D.1.natAbs * E.1.natAbs)) → Tab 0 w → Calls Tryd.prog 99 #[.bool (decide (D.1 < 0) != decide (E.1 < 0)), .slice a (limbs (D.1.natAbs * E.1.natAbs)).length c, .int .i64 (D.2 + E.2)] w (RetVD w (mulD D E)) from fun a c w k t => by
    have := normD_any (decide (D.1 < 0) != decide (E.1 < 0)) a c (D.1.natAbs * E.1.natAbs) (D.2 + E.2) w k (by omega) (by omega) t
    rw [sg_mul_abs] at this
    exact this)
  have hw1 : IntKind.i64.wrap (D.2 + E.2) = D.2 + E.2 := IntWalk.i64_in _ (by omega)
  generalize mulD D E = R at *
  generalize D.1.natAbs = M0 at *
  generalize E.1.natAbs = M1 at *
  generalize decide (D.1 < 0) = n0 at *
  generalize decide (E.1 < 0) = n1 at *
  generalize D.2 = e0 at *
  generalize E.2 = e1 at *
  clear hN hM hT hpl
  have zA : QL 25 (((w.alloc (.cells #[.bool n0, .slice am (limbs M0).length cm, .int .i64 e0] 25)).alloc (.cells #[.bool n1, .slice bm (limbs M1).length dm, .int .i64 e1] 25)).alloc (.cells #[.bool false, .slice none 0 0, .int .i64 0] 25)) w.heap.size n0 (.slice am (limbs M0).length cm) e0 := ((QL.made rfl).alloc _).alloc _
  have zB : QL 25 (((w.alloc (.cells #[.bool n0, .slice am (limbs M0).length cm, .int .i64 e0] 25)).alloc (.cells #[.bool n1, .slice bm (limbs M1).length dm, .int .i64 e1] 25)).alloc (.cells #[.bool false, .slice none 0 0, .int .i64 0] 25)) (w.heap.size + 1) n1 (.slice bm (limbs M1).length dm) e1 := (QL.made (by first | omega | (simp; done) | (simp; omega))).alloc _
  have zR0 : QL 25 (((w.alloc (.cells #[.bool n0, .slice am (limbs M0).length cm, .int .i64 e0] 25)).alloc (.cells #[.bool n1, .slice bm (limbs M1).length dm, .int .i64 e1] 25)).alloc (.cells #[.bool false, .slice none 0 0, .int .i64 0] 25)) (w.heap.size + 1 + 1) false (.slice none 0 0) 0 := QL.made (by first | omega | (simp; done) | (simp; omega))
  have yb0 : Below w.heap.size w (((w.alloc (.cells #[.bool n0, .slice am (limbs M0).length cm, .int .i64 e0] 25)).alloc (.cells #[.bool n1, .slice bm (limbs M1).length dm, .int .i64 e1] 25)).alloc (.cells #[.bool false, .slice none 0 0, .int .i64 0] 25)) := by (repeat' (first | (with_reducible assumption) | (with_reducible exact Below.refl _ _) | (with_reducible refine below_al ?_ _) | (with_reducible refine below_drewN ?_ _) | (with_reducible refine Below.drew ?_) | (with_reducible refine Below.alloc ?_ ?_ _) | (with_reducible refine Below.setCell ?_ ?_ _) | (refine below_trans ?_ (by assumption)) | go_size))
  go_enter Tryd.func119, Tryd.ntmps119
  go_upto_region 1 with fail
  refine wp_region_grow 16 [5, 6, 7, 8, 9, 10, 11, 12, 13, 14, 15, 16, 17, 18, 19, 20] [Fact.is (.pointer (some ⟨w.heap.size, 0, none⟩)), Fact.is (.bool n0), Fact.is (.pointer (some ⟨w.heap.size + 1, 0, none⟩)), Fact.is (.bool n1), Fact.is (.bool (n0 != n1)), Fact.is (.pointer (some ⟨w.heap.size, 1, none⟩)), Fact.is (.slice am (limbs M0).length cm), Fact.is (.pointer (some ⟨w.heap.size + 1, 1, none⟩)), Fact.is (.slice bm (limbs M1).length dm), Fact.li (M0 * M1), Fact.is (.pointer (some ⟨w.heap.size, 2, none⟩)), Fact.is (.int .i64 e0), Fact.is (.pointer (some ⟨w.heap.size + 1, 2, none⟩)), Fact.is (.int .i64 e1), Fact.is (.int .i64 (e0 + e1)), Fact.vd R] (by kernel_rfl) (by kernel_rfl) ⟨?o0, ?o1, ?o2, ?o3, ?o4, ?o5, ?o6, ?o7, ?o8, ?o9, ?o10, ?o11, ?o12, ?o13, ?o14, ?o15, trivial⟩ ?after
  case o0 => (refine StepOK.plain rfl ?_; intro ρ w1 R hρ hb hp hR; have e2 : ρ (.tmp 2) = .pointer (some ⟨w.heap.size, 0, none⟩) := hρ.tmp 2 rfl; have hcon := hρ.con; have hfn := hρ.fn; clear hρ hp; unfold OpRun; go_simp; exact hR _ _ (Below.refl _ _) rfl)
  case o1 => (refine StepOK.plain rfl ?_; intro ρ w1 R hρ hb hp hR; have e5 : ρ (.tmp 5) = _ := hp 0 5 rfl rfl; obtain ⟨⟨j0, j1, -, -, -⟩, j2, -⟩ := zA.below hb; have hcon := hρ.con; have hfn := hρ.fn; clear hρ hp; unfold OpRun; go_simp; exact hR _ _ (Below.refl _ _) rfl)
  case o2 => (refine StepOK.plain rfl ?_; intro ρ w1 R hρ hb hp hR; have e3 : ρ (.tmp 3) = .pointer (some ⟨w.heap.size + 1, 0, none⟩) := hρ.tmp 3 rfl; have hcon := hρ.con; have hfn := hρ.fn; clear hρ hp; unfold OpRun; go_simp; exact hR _ _ (Below.refl _ _) rfl)
  case o3 => (refine StepOK.plain rfl ?_; intro ρ w1 R hρ hb hp hR; have e7 : ρ (.tmp 7) = _ := hp 2 7 rfl rfl; obtain ⟨⟨j0, j1, -, -, -⟩, j2, -⟩ := zB.below hb; have hcon := hρ.con; have hfn := hρ.fn; clear hρ hp; unfold OpRun; go_simp; exact hR _ _ (Below.refl _ _) rfl)
  case o4 => (refine StepOK.plain rfl ?_; intro ρ w1 R hρ hb hp hR; have e6 : ρ (.tmp 6) = _ := hp 1 6 rfl rfl; have e8 : ρ (.tmp 8) = _ := hp 3 8 rfl rfl; have hcon := hρ.con; have hfn := hρ.fn; clear hρ hp; unfold OpRun; go_simp; exact hR _ _ (Below.refl _ _) rfl)
  case o5 => (refine StepOK.plain rfl ?_; intro ρ w1 R hρ hb hp hR; have e2 : ρ (.tmp 2) = .pointer (some ⟨w.heap.size, 0, none⟩) := hρ.tmp 2 rfl; have hcon := hρ.con; have hfn := hρ.fn; clear hρ hp; unfold OpRun; go_simp; exact hR _ _ (Below.refl _ _) rfl)
  case o6 => (refine StepOK.plain rfl ?_; intro ρ w1 R hρ hb hp hR; have e10 : ρ (.tmp 10) = _ := hp 5 10 rfl rfl; obtain ⟨⟨j0, j1, -, -, -⟩, j2, -⟩ := zA.below hb; have hcon := hρ.con; have hfn := hρ.fn; clear hρ hp; unfold OpRun; go_simp; exact hR _ _ (Below.refl _ _) rfl)
  case o7 => (refine StepOK.plain rfl ?_; intro ρ w1 R hρ hb hp hR; have e3 : ρ (.tmp 3) = .pointer (some ⟨w.heap.size + 1, 0, none⟩) := hρ.tmp 3 rfl; have hcon := hρ.con; have hfn := hρ.fn; clear hρ hp; unfold OpRun; go_simp; exact hR _ _ (Below.refl _ _) rfl)
  case o8 => (refine StepOK.plain rfl ?_; intro ρ w1 R hρ hb hp hR; have e12 : ρ (.tmp 12) = _ := hp 7 12 rfl rfl; obtain ⟨⟨j0, j1, -, -, -⟩, j2, -⟩ := zB.below hb; have hcon := hρ.con; have hfn := hρ.fn; clear hρ hp; unfold OpRun; go_simp; exact hR _ _ (Below.refl _ _) rfl)
  case o9 => (refine StepOK.plain rfl ?_; intro ρ w1 R hρ hb hp hR; have e11 : ρ (.tmp 11) = _ := hp 6 11 rfl rfl; have e13 : ρ (.tmp 13) = _ := hp 8 13 rfl rfl; have hcon := hρ.con; have hfn := hρ.fn; clear hρ hp; unfold OpRun; go_simp; (refine (TI.out _ (HN.out.below (below_trans yb0 hb)) (HM.out.below (below_trans yb0 hb))).mono ?_; rintro e wn ⟨a9, rfl, hn9, hbn⟩; exact ⟨_, rfl, hR _ _ hbn ⟨a9, _, rfl, hn9⟩⟩))
  case o10 => (refine StepOK.plain rfl ?_; intro ρ w1 R hρ hb hp hR; have e2 : ρ (.tmp 2) = .pointer (some ⟨w.heap.size, 0, none⟩) := hρ.tmp 2 rfl; have hcon := hρ.con; have hfn := hρ.fn; clear hρ hp; unfold OpRun; go_simp; exact hR _ _ (Below.refl _ _) rfl)
  case o11 => (refine StepOK.plain rfl ?_; intro ρ w1 R hρ hb hp hR; have e15 : ρ (.tmp 15) = _ := hp 10 15 rfl rfl; obtain ⟨⟨j0, j1, -, -, -⟩, j2, -⟩ := zA.below hb; have hcon := hρ.con; have hfn := hρ.fn; clear hρ hp; unfold OpRun; go_simp; exact hR _ _ (Below.refl _ _) rfl)
  case o12 => (refine StepOK.plain rfl ?_; intro ρ w1 R hρ hb hp hR; have e3 : ρ (.tmp 3) = .pointer (some ⟨w.heap.size + 1, 0, none⟩) := hρ.tmp 3 rfl; have hcon := hρ.con; have hfn := hρ.fn; clear hρ hp; unfold OpRun; go_simp; exact hR _ _ (Below.refl _ _) rfl)
  case o13 => (refine StepOK.plain rfl ?_; intro ρ w1 R hρ hb hp hR; have e17 : ρ (.tmp 17) = _ := hp 12 17 rfl rfl; obtain ⟨⟨j0, j1, -, -, -⟩, j2, -⟩ := zB.below hb; have hcon := hρ.con; have hfn := hρ.fn; clear hρ hp; unfold OpRun; go_simp; exact hR _ _ (Below.refl _ _) rfl)
  case o14 => (refine StepOK.plain rfl ?_; intro ρ w1 R hρ hb hp hR; have e16 : ρ (.tmp 16) = _ := hp 11 16 rfl rfl; have e18 : ρ (.tmp 18) = _ := hp 13 18 rfl rfl; have hcon := hρ.con; have hfn := hρ.fn; clear hρ hp; unfold OpRun; go_simp; exact hR _ _ (Below.refl _ _) rfl)
  case o15 => (refine StepOK.plain rfl ?_; intro ρ w1 R hρ hb hp hR; have e9 : ρ (.tmp 9) = _ := hp 4 9 rfl rfl; have f14 := hp 9 14 rfl rfl; have e19 : ρ (.tmp 19) = _ := hp 14 19 rfl rfl; obtain ⟨a9, c9, e14, hn9⟩ := f14; have hcon := hρ.con; have hfn := hρ.fn; clear hρ hp; unfold OpRun; go_simp; (skip; refine (NO.out a9 c9 _ hn9 (HT.out.below (below_trans yb0 hb))).mono ?_; rintro e wn ⟨v9, rfl, hv9, hbn⟩; exact ⟨_, rfl, hR _ _ hbn hv9⟩))
  case after =>
    intro u wn hb hf
    have f20 := hf 15 20 (by omega) rfl
    clear hf
    simp only [putAll, Act.put, List.setIfInBounds_toArray, List.set_cons_zero, List.set_cons_succ, List.drop_succ_cons, List.drop_zero, List.drop_nil]
    obtain ⟨a3, c3, e20, hN3⟩ := f20
    rw [e20]
    have zR3 := zR0.below hb
    have yb3 := below_trans yb0 hb
    obtain ⟨⟨k0, k1, f0, f1, hs2⟩, k2, f2⟩ := id zR3
    clear e20
    go_wp2_with fail
    refine bodyPost_ret (by simp [results, Tryd.results119, go_sem, k0, k1, k2]; try rfl) rfl ?_
    exact ⟨_, rfl, ⟨a3, c3, rfl, hN3.set3 zR3 (by intro x h; cases h) _ _ _⟩, ((yb3.setCell (by first | omega | (simp; done) | (simp; omega)) _).setCell (by first | omega | (simp; done) | (simp; omega)) _).setCell (by first | omega | (simp; done) | (simp; omega)) _⟩
end Go.Proofs.YteaakbeemhmciaaDoor
