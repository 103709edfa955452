/- The reference's numbers over a power of two: products, sizes. -/
import Derived.Test.YthaelmnblgollaaGreatDoorQ5
import Derived.Test.YthaelmnblgollaaGreatDoorRegL
import Derived.Deep.DeepCutAuto
import Derived.Deep.CutBlock
namespace Go.Ulp
open Go.RowKit
def Fact.q (t : TypeId) (D : Dy) (A T : Nat) : Fact := ⟨fun v w => QD t w D A T v, fun _ _ _ h hb => h.below hb⟩
theorem abs_mul_lt {x y : Int} {A B : Nat} (hx : x.natAbs < 2 ^ A) (hy : y.natAbs < 2 ^ B) : (x * y).natAbs < 2 ^ (A + B) := by
  rw [Int.natAbs_mul, Nat.pow_add]
  exact Nat.mul_lt_mul'' hx hy
end Go.Ulp
namespace Go.Proofs.YthaelmnblgollaaGreatDoor
open Go.RowKit Go.Ulp
set_option linter.unusedVariables false
set_option linter.unusedSimpArgs false
set_option maxHeartbeats 1000000
set_option maxRecDepth 100000
theorem qmul_any (v u : Value) (D E : Dy) (A T B S : Nat) (w : World) (hv : QD 3 w D A T v) (hu : QD 3 w E B S u) (hA : A ≤ 100000000) (hB : B ≤ 100000000) (hT : T ≤ 100000000) (hS : S ≤ 100000000) :
    Calls Tryz.prog 100 #[v, u] w fun e w' => RetQD 3 w (mulD D E) (A + B) (T + S) e w' := by
  obtain ⟨x, n, a0, c0, rfl, h0, hD, hxA, hn⟩ := hv
  obtain ⟨y, m, a1, c1, rfl, h1, hE, hyB, hm⟩ := hu
  have lx := zl_len_bits x A hxA
  have ly := zl_len_bits y B hyB
  have H0 := hid h0
  have H1 := hid h1
  have ZM := hid (fun w h0 h1 => zmul_any a0 a1 c0 c1 x y w h0 h1 (by omega) (by omega))
  have HV := hid (show nrm (x * y) (-((n + m : Nat) : Int)) = mulD D E by
    rw [← hD, ← hE, ← nrm_mul]; congr 1; omega)
  have HA := hid (abs_mul_lt hxA hyB)
  have hsum : (n : Int) + (m : Int) = ((n + m : Nat) : Int) := by omega
  have HS := hid hsum
  have zA : QL 41 (((w.alloc (.cells #[.bool (zneg x), .slice a0 (zl x).length c0, .int .i64 (n : Int)] 41)).alloc (.cells #[.bool (zneg y), .slice a1 (zl y).length c1, .int .i64 (m : Int)] 41)).alloc (.cells #[.bool false, .slice none 0 0, .int .i64 0] 41)) w.heap.size (zneg x) (.slice a0 (zl x).length c0) n := ((QL.made rfl).alloc _).alloc _
  have zB : QL 41 (((w.alloc (.cells #[.bool (zneg x), .slice a0 (zl x).length c0, .int .i64 (n : Int)] 41)).alloc (.cells #[.bool (zneg y), .slice a1 (zl y).length c1, .int .i64 (m : Int)] 41)).alloc (.cells #[.bool false, .slice none 0 0, .int .i64 0] 41)) (w.heap.size + 1) (zneg y) (.slice a1 (zl y).length c1) m := (QL.made (by first | omega | (simp; done) | (simp; omega))).alloc _
  have zR0 : QL 41 (((w.alloc (.cells #[.bool (zneg x), .slice a0 (zl x).length c0, .int .i64 (n : Int)] 41)).alloc (.cells #[.bool (zneg y), .slice a1 (zl y).length c1, .int .i64 (m : Int)] 41)).alloc (.cells #[.bool false, .slice none 0 0, .int .i64 0] 41)) (w.heap.size + 1 + 1) false (.slice none 0 0) 0 := QL.made (by first | omega | (simp; done) | (simp; omega))
  have yb0 : Below w.heap.size w (((w.alloc (.cells #[.bool (zneg x), .slice a0 (zl x).length c0, .int .i64 (n : Int)] 41)).alloc (.cells #[.bool (zneg y), .slice a1 (zl y).length c1, .int .i64 (m : Int)] 41)).alloc (.cells #[.bool false, .slice none 0 0, .int .i64 0] 41)) := by (repeat' (first | (with_reducible assumption) | (with_reducible exact Below.refl _ _) | (with_reducible refine below_al ?_ _) | (with_reducible refine below_drewN ?_ _) | (with_reducible refine Below.drew ?_) | (with_reducible refine Below.alloc ?_ ?_ _) | (with_reducible refine Below.setCell ?_ ?_ _) | (refine below_trans ?_ (by assumption)) | go_size))
  have hn0 : 0 ≤ (n : Int) := by omega
  have hn1 : (n : Int) ≤ 100000000 := by omega
  have hm0 : 0 ≤ (m : Int) := by omega
  have hm1 : (m : Int) ≤ 100000000 := by omega
  have hw1 : IntKind.i64.wrap ((n : Int) + (m : Int)) = (n : Int) + (m : Int) := IntWalk.i64_in _ (by omega)
  clear h0 h1 hD hE hxA hyB lx ly hsum
  go_enter Tryz.func100, Tryz.ntmps100
  go_upto_region 1 with fail
  refine wp_region_grow 10 [5, 6, 7, 8, 9, 10, 11, 12, 13, 14] [Fact.is (.pointer (some ⟨w.heap.size, 0, none⟩)), Fact.is (.agg #[.bool (zneg x), .slice a0 (zl x).length c0]), Fact.is (.pointer (some ⟨w.heap.size + 1, 0, none⟩)), Fact.is (.agg #[.bool (zneg y), .slice a1 (zl y).length c1]), Fact.z 3 (x * y), Fact.is (.pointer (some ⟨w.heap.size, 2, none⟩)), Fact.is (.int .i64 (n : Int)), Fact.is (.pointer (some ⟨w.heap.size + 1, 2, none⟩)), Fact.is (.int .i64 (m : Int)), Fact.is (.int .i64 ((n : Int) + (m : Int)))] (by kernel_rfl) (by kernel_rfl) ⟨?o0, ?o1, ?o2, ?o3, ?o4, ?o5, ?o6, ?o7, ?o8, ?o9, trivial⟩ ?after
  case o0 => (refine StepOK.plain rfl ?_; intro ρ w1 R hρ hb hp hR; have e2 : ρ (.tmp 2) = .pointer (some ⟨w.heap.size, 0, none⟩) := hρ.tmp 2 rfl; have hcon := hρ.con; have hfn := hρ.fn; clear hρ hp; unfold OpRun; go_simp; exact hR _ _ (Below.refl _ _) rfl)
  case o1 => (refine StepOK.plain rfl ?_; intro ρ w1 R hρ hb hp hR; have e5 : ρ (.tmp 5) = _ := hp 0 5 rfl rfl; obtain ⟨⟨j0, j1, -, -, -⟩, j2, -⟩ := zA.below hb; have hcon := hρ.con; have hfn := hρ.fn; clear hρ hp; unfold OpRun; go_simp; exact hR _ _ (Below.refl _ _) rfl)
  case o2 => (refine StepOK.plain rfl ?_; intro ρ w1 R hρ hb hp hR; have e3 : ρ (.tmp 3) = .pointer (some ⟨w.heap.size + 1, 0, none⟩) := hρ.tmp 3 rfl; have hcon := hρ.con; have hfn := hρ.fn; clear hρ hp; unfold OpRun; go_simp; exact hR _ _ (Below.refl _ _) rfl)
  case o3 => (refine StepOK.plain rfl ?_; intro ρ w1 R hρ hb hp hR; have e7 : ρ (.tmp 7) = _ := hp 2 7 rfl rfl; obtain ⟨⟨j0, j1, -, -, -⟩, j2, -⟩ := zB.below hb; have hcon := hρ.con; have hfn := hρ.fn; clear hρ hp; unfold OpRun; go_simp; exact hR _ _ (Below.refl _ _) rfl)
  case o4 => (refine StepOK.plain rfl ?_; intro ρ w1 R hρ hb hp hR; have e6 : ρ (.tmp 6) = _ := hp 1 6 rfl rfl; have e8 : ρ (.tmp 8) = _ := hp 3 8 rfl rfl; have hcon := hρ.con; have hfn := hρ.fn; clear hρ hp; unfold OpRun; go_simp; (refine (ZM.out _ (H0.out.below (below_trans yb0 hb)) (H1.out.below (below_trans yb0 hb))).mono ?_; rintro e wn ⟨az, cz, rfl, hz9, hbn⟩; exact ⟨_, rfl, hR _ _ hbn ⟨az, cz, rfl, hz9⟩⟩))
  case o5 => (refine StepOK.plain rfl ?_; intro ρ w1 R hρ hb hp hR; have e2 : ρ (.tmp 2) = .pointer (some ⟨w.heap.size, 0, none⟩) := hρ.tmp 2 rfl; have hcon := hρ.con; have hfn := hρ.fn; clear hρ hp; unfold OpRun; go_simp; exact hR _ _ (Below.refl _ _) rfl)
  case o6 => (refine StepOK.plain rfl ?_; intro ρ w1 R hρ hb hp hR; have e10 : ρ (.tmp 10) = _ := hp 5 10 rfl rfl; obtain ⟨⟨j0, j1, -, -, -⟩, j2, -⟩ := zA.below hb; have hcon := hρ.con; have hfn := hρ.fn; clear hρ hp; unfold OpRun; go_simp; exact hR _ _ (Below.refl _ _) rfl)
  case o7 => (refine StepOK.plain rfl ?_; intro ρ w1 R hρ hb hp hR; have e3 : ρ (.tmp 3) = .pointer (some ⟨w.heap.size + 1, 0, none⟩) := hρ.tmp 3 rfl; have hcon := hρ.con; have hfn := hρ.fn; clear hρ hp; unfold OpRun; go_simp; exact hR _ _ (Below.refl _ _) rfl)
  case o8 => (refine StepOK.plain rfl ?_; intro ρ w1 R hρ hb hp hR; have e12 : ρ (.tmp 12) = _ := hp 7 12 rfl rfl; obtain ⟨⟨j0, j1, -, -, -⟩, j2, -⟩ := zB.below hb; have hcon := hρ.con; have hfn := hρ.fn; clear hρ hp; unfold OpRun; go_simp; exact hR _ _ (Below.refl _ _) rfl)
  case o9 => (refine StepOK.plain rfl ?_; intro ρ w1 R hρ hb hp hR; have e11 : ρ (.tmp 11) = _ := hp 6 11 rfl rfl; have e13 : ρ (.tmp 13) = _ := hp 8 13 rfl rfl; have hcon := hρ.con; have hfn := hρ.fn; clear hρ hp; unfold OpRun; go_simp; exact hR _ _ (Below.refl _ _) rfl)
  case after =>
    intro u wn hb hf
    have f9 := hf 4 9 (by omega) rfl
    have e14 : u 14 = _ := hf 9 14 (by omega) rfl
    clear hf
    simp only [putAll, Act.put, List.setIfInBounds_toArray, List.set_cons_zero, List.set_cons_succ, List.drop_succ_cons, List.drop_zero, List.drop_nil]
    rw [e14]
    obtain ⟨az, cz, e9, hz9⟩ := f9
    rw [e9]
    have zR3 := zR0.below hb
    have yb3 := below_trans yb0 hb
    obtain ⟨⟨k0, k1, f0, f1, hs2⟩, k2, f2⟩ := id zR3
    clear e9
    go_wp2_with fail
    refine bodyPost_ret (by simp [results, Tryz.results100, go_sem, k0, k1, k2]; try rfl) rfl ?_
    rw [HS.out]
    exact ⟨_, rfl, ⟨x * y, n + m, az, cz, rfl, ((hz9.setCell hs2 (by decide) _ _).setCell (hs2.setCell _ _) (by decide) _ _).setCell ((hs2.setCell _ _).setCell _ _) (by decide) _ _, HV.out, HA.out, by omega⟩, ((yb3.setCell (by first | omega | (simp; done) | (simp; omega)) _).setCell (by first | omega | (simp; done) | (simp; omega)) _).setCell (by first | omega | (simp; done) | (simp; omega)) _⟩
theorem qabs_any (v : Value) (D : Dy) (A T : Nat) (w : World) (hv : QD 3 w D A T v) (hA : A ≤ 100000000) (hT : T ≤ 100000000) :
    Calls Tryz.prog 71 #[v] w fun e w' => RetQD 3 w (absD D) A T e w' := by
  obtain ⟨x, n, a0, c0, rfl, h0, hD, hxA, hn⟩ := hv
  have H0 := hid h0
  have ZB := hid (fun w h0 => zabs_any a0 c0 x w h0)
  have HV := hid (show nrm (x.natAbs : Int) (-(n : Int)) = absD D by rw [← hD, ← nrm_natAbs])
  have HA := hid (show (x.natAbs : Int).natAbs < 2 ^ A by rw [Int.natAbs_natCast]; exact hxA)
  have zA : QL 41 ((w.alloc (.cells #[.bool (zneg x), .slice a0 (zl x).length c0, .int .i64 (n : Int)] 41)).alloc (.cells #[.bool false, .slice none 0 0, .int .i64 0] 41)) w.heap.size (zneg x) (.slice a0 (zl x).length c0) n := (QL.made rfl).alloc _
  have zR0 : QL 41 ((w.alloc (.cells #[.bool (zneg x), .slice a0 (zl x).length c0, .int .i64 (n : Int)] 41)).alloc (.cells #[.bool false, .slice none 0 0, .int .i64 0] 41)) (w.heap.size + 1) false (.slice none 0 0) 0 := QL.made (by first | omega | (simp; done) | (simp; omega))
  have yb0 : Below w.heap.size w ((w.alloc (.cells #[.bool (zneg x), .slice a0 (zl x).length c0, .int .i64 (n : Int)] 41)).alloc (.cells #[.bool false, .slice none 0 0, .int .i64 0] 41)) := by (repeat' (first | (with_reducible assumption) | (with_reducible exact Below.refl _ _) | (with_reducible refine below_al ?_ _) | (with_reducible refine below_drewN ?_ _) | (with_reducible refine Below.drew ?_) | (with_reducible refine Below.alloc ?_ ?_ _) | (with_reducible refine Below.setCell ?_ ?_ _) | (refine below_trans ?_ (by assumption)) | go_size))
  clear h0 hD hxA
  go_enter Tryz.func71, Tryz.ntmps71
  go_upto_region 1 with fail
  refine wp_region_grow 5 [3, 4, 5, 6, 7] [Fact.is (.pointer (some ⟨w.heap.size, 0, none⟩)), Fact.is (.agg #[.bool (zneg x), .slice a0 (zl x).length c0]), Fact.z 3 (x.natAbs : Int), Fact.is (.pointer (some ⟨w.heap.size, 2, none⟩)), Fact.is (.int .i64 (n : Int))] (by kernel_rfl) (by kernel_rfl) ⟨?o0, ?o1, ?o2, ?o3, ?o4, trivial⟩ ?after
  case o0 => (refine StepOK.plain rfl ?_; intro ρ w1 R hρ hb hp hR; have e1 : ρ (.tmp 1) = .pointer (some ⟨w.heap.size, 0, none⟩) := hρ.tmp 1 rfl; have hcon := hρ.con; have hfn := hρ.fn; clear hρ hp; unfold OpRun; go_simp; exact hR _ _ (Below.refl _ _) rfl)
  case o1 => (refine StepOK.plain rfl ?_; intro ρ w1 R hρ hb hp hR; have e3 : ρ (.tmp 3) = _ := hp 0 3 rfl rfl; obtain ⟨⟨j0, j1, -, -, -⟩, j2, -⟩ := zA.below hb; have hcon := hρ.con; have hfn := hρ.fn; clear hρ hp; unfold OpRun; go_simp; exact hR _ _ (Below.refl _ _) rfl)
  case o2 => (refine StepOK.plain rfl ?_; intro ρ w1 R hρ hb hp hR; have e4 : ρ (.tmp 4) = _ := hp 1 4 rfl rfl; have hcon := hρ.con; have hfn := hρ.fn; clear hρ hp; unfold OpRun; go_simp; (refine (ZB.out _ (H0.out.below (below_trans yb0 hb))).mono ?_; rintro e wn ⟨az, cz, rfl, hz9, hbn⟩; exact ⟨_, rfl, hR _ _ hbn ⟨az, cz, rfl, hz9⟩⟩))
  case o3 => (refine StepOK.plain rfl ?_; intro ρ w1 R hρ hb hp hR; have e1 : ρ (.tmp 1) = .pointer (some ⟨w.heap.size, 0, none⟩) := hρ.tmp 1 rfl; have hcon := hρ.con; have hfn := hρ.fn; clear hρ hp; unfold OpRun; go_simp; exact hR _ _ (Below.refl _ _) rfl)
  case o4 => (refine StepOK.plain rfl ?_; intro ρ w1 R hρ hb hp hR; have e6 : ρ (.tmp 6) = _ := hp 3 6 rfl rfl; obtain ⟨⟨j0, j1, -, -, -⟩, j2, -⟩ := zA.below hb; have hcon := hρ.con; have hfn := hρ.fn; clear hρ hp; unfold OpRun; go_simp; exact hR _ _ (Below.refl _ _) rfl)
  case after =>
    intro u wn hb hf
    have f5 := hf 2 5 (by omega) rfl
    have e7 : u 7 = _ := hf 4 7 (by omega) rfl
    clear hf
    simp only [putAll, Act.put, List.setIfInBounds_toArray, List.set_cons_zero, List.set_cons_succ, List.drop_succ_cons, List.drop_zero, List.drop_nil]
    rw [e7]
    obtain ⟨az, cz, e9, hz9⟩ := f5
    rw [e9]
    have zR3 := zR0.below hb
    have yb3 := below_trans yb0 hb
    obtain ⟨⟨k0, k1, f0, f1, hs2⟩, k2, f2⟩ := id zR3
    clear e9
    go_wp2_with fail
    refine bodyPost_ret (by simp [results, Tryz.results71, go_sem, k0, k1, k2]; try rfl) rfl ?_
    exact ⟨_, rfl, ⟨_, n, az, cz, rfl, ((hz9.setCell hs2 (by decide) _ _).setCell (hs2.setCell _ _) (by decide) _ _).setCell ((hs2.setCell _ _).setCell _ _) (by decide) _ _, HV.out, HA.out, hn⟩, ((yb3.setCell (by first | omega | (simp; done) | (simp; omega)) _).setCell (by first | omega | (simp; done) | (simp; omega)) _).setCell (by first | omega | (simp; done) | (simp; omega)) _⟩
end Go.Proofs.YthaelmnblgollaaGreatDoor
