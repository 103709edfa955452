/- The reference's numbers over a power of two: products, sizes. -/
import Derived.Test.YthaelmnblgollaaDoorQ5
import Derived.Test.YthaelmnblgollaaDoorRegL
import Derived.Deep.DeepCutAuto
import Derived.Deep.CutBlock
namespace Go.Ulp
open Go.RowKit
def Fact.q (t : TypeId) (D : Dy) (A T : Nat) : Fact := ⟨fun v w => QD t w D A T v, fun _ _ _ h hb => h.below hb⟩
theorem abs_mul_lt {x y : Int} {A B : Nat} (hx : x.natAbs < 2 ^ A) (hy : y.natAbs < 2 ^ B) : (x * y).natAbs < 2 ^ (A + B) := by
  rw [Int.natAbs_mul, Nat.pow_add]
  exact Nat.mul_lt_mul'' hx hy
end Go.Ulp
namespace Go.Proofs.YthaelmnblgollaaDoor
open Go.RowKit Go.Ulp
set_option linter.unusedVariables false
set_option linter.unusedSimpArgs false
set_option maxHeartbeats 1000000
set_option maxRecDepth 100000
theorem qabs_any (v : Value) (D : Dy) (A T : Nat) (w : World) (hv : QD 3 w D A T v) (hA : A ≤ 100000000) (hT : T ≤ 100000000) :
    Calls Tryd.prog 31 #[v] w fun e w' => RetQD 3 w (absD D) A T e w' := by
  obtain ⟨x, n, a0, c0, rfl, h0, hD, hxA, hn⟩ := hv
  have H0 := hid h0
  have ZB := hid (fun w h0 => zabs_any a0 c0 x w h0)
  have HV := hid (show nrm (x.natAbs : Int) (-(n : Int)) = absD D by rw [← hD, ← nrm_natAbs])
  have HA := hid (show (x.natAbs : Int).natAbs < 2 ^ A by rw [Int.natAbs_natCast]; exact hxA)
  have zA : QL 53 ((w.alloc (.cells #[.bool (zneg x), .slice a0 (zl x).length c0, .int .i64 (n : Int)] 53)).alloc (.cells #[.bool false, .slice none 0 0, .int .i64 0] 53)) w.heap.size (zneg x) (.slice a0 (zl x).length c0) n := (QL.made rfl).alloc _
  have zR0 : QL 53 ((w.alloc (.cells #[.bool (zneg x), .slice a0 (zl x).length c0, .int .i64 (n : Int)] 53)).alloc (.cells #[.bool false, .slice none 0 0, .int .i64 0] 53)) (w.heap.size + 1) false (.slice none 0 0) 0 := QL.made (by first | omega | (simp; done) | (simp; omega))
  have yb0 : Below w.heap.size w ((w.alloc (.cells #[.bool (zneg x), .slice a0 (zl x).length c0, .int .i64 (n : Int)] 53)).alloc (.cells #[.bool false, .slice none 0 0, .int .i64 0] 53)) := by (repeat' (first | (with_reducible assumption) | (with_reducible exact Below.refl _ _) | (with_reducible refine below_al ?_ _) | (with_reducible refine below_drewN ?_ _) | (with_reducible refine Below.drew ?_) | (with_reducible refine Below.alloc ?_ ?_ _) | (with_reducible refine Below.setCell ?_ ?_ _) | (refine below_trans ?_ (by assumption)) | go_size))
  clear h0 hD hxA
  go_enter Tryd.func31, Tryd.ntmps31
  go_upto_region 1 with fail
  refine wp_region_grow 5 [3, 4, 5, 6, 7] [Fact.is (.pointer (some ⟨w.heap.size, 0, none⟩)), Fact.is (.agg #[.bool (zneg x), .slice a0 (zl x).length c0]), Fact.z 3 (x.natAbs : Int), Fact.is (.pointer (some ⟨w.heap.size, 2, none⟩)), Fact.is (.int .i64 (n : Int))] (by kernel_rfl) (by kernel_rfl) ⟨?o0, ?o1, ?o2, ?o3, ?o4, trivial⟩ ?after
  case o0 => (refine StepOK.plain rfl ?_; intro ρ w1 R hρ hb hp hR; have e1 : ρ (.tmp 1) = .pointer (some ⟨w.heap.size, 0, none⟩) := hρ.tmp 1 rfl; have hcon := hρ.con; have hfn := hρ.fn; clear hρ hp; unfold OpRun; go_simp; exact hR _ _ (Below.refl _ _) rfl)
  case o1 => (refine StepOK.plain rfl ?_; intro ρ w1 R hρ hb hp hR; have e3 : ρ (.tmp 3) = _ := hp 0 3 rfl rfl; obtain ⟨⟨j0, j1, -, -, -⟩, j2, -⟩ := zA.below hb; have hcon := hρ.con; have hfn := hρ.fn; clear hρ hp; unfold OpRun; go_simp; exact hR _ _ (Below.refl _ _) rfl)
  case o2 => (refine StepOK.plain rfl ?_; intro ρ w1 R hρ hb hp hR; have e4 : ρ (.tmp 4) = _ := hp 1 4 rfl rfl; have hcon := hρ.con; have hfn := hρ.fn; clear hρ hp; unfold OpRun; go_simp; (refine (ZB.out _ (H0.out.below (below_trans yb0 hb))).mono ?_; rintro e wn ⟨az, cz, rfl, hz9, hbn⟩; exact ⟨_, rfl, hR _ _ hbn ⟨az, cz, rfl, hz9⟩⟩))
  case o3 => (refine StepOK.plain rfl ?_; intro ρ w1 R hρ hb hp hR; have e1 : ρ (.tmp 1) = .pointer (some ⟨w.heap.size, 0, none⟩) := hρ.tmp 1 rfl; have hcon := hρ.con; have hfn := hρ.fn; clear hρ hp; unfold OpRun; go_simp; exact hR _ _ (Below.refl _ _) rfl)
  case o4 => (refine StepOK.plain rfl ?_; intro ρ w1 R hρ hb hp hR; have e6 : ρ (.tmp 6) = _ := hp 3 6 rfl rfl; obtain ⟨⟨j0, j1, -, -, -⟩, j2, -⟩ := zA.below hb; have hcon := hρ.con; have hfn := hρ.fn; clear hρ hp; unfold OpRun; go_simp; exact hR _ _ (Below.refl _ _) rfl)
  case after =>
    intro u wn hb hf
    have f5 := hf 2 5 (by omega) rfl
    have e7 : u 7 = _ := hf 4 7 (by omega) rfl
    clear hf
    simp only [putAll, Act.put, List.setIfInBounds_toArray, List.set_cons_zero, List.set_cons_succ, List.drop_succ_cons, List.drop_zero, List.drop_nil]
    rw [e7]
    obtain ⟨az, cz, e9, hz9⟩ := f5
    rw [e9]
    have zR3 := zR0.below hb
    have yb3 := below_trans yb0 hb
    obtain ⟨⟨k0, k1, f0, f1, hs2⟩, k2, f2⟩ := id zR3
    clear e9
    go_wp2_with fail
    refine bodyPost_ret (by simp [results, Tryd.results31, go_sem, k0, k1, k2]; try rfl) rfl ?_
    exact ⟨_, rfl, ⟨_, n, az, cz, rfl, ((hz9.setCell hs2 (by decide) _ _).setCell (hs2.setCell _ _) (by decide) _ _).setCell ((hs2.setCell _ _).setCell _ _) (by decide) _ _, HV.out, HA.out, hn⟩, ((yb3.setCell (by first | omega | (simp; done) | (simp; omega)) _).setCell (by first | omega | (simp; done) | (simp; omega)) _).setCell (by first | omega | (simp; done) | (simp; omega)) _⟩
end Go.Proofs.YthaelmnblgollaaDoor
