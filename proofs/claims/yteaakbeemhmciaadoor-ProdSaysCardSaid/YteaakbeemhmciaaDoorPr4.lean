/- ProdSays: the law's walk. -/
import Derived.Test.YteaakbeemhmciaaDoorPr3
set_option linter.unusedVariables false
set_option linter.unusedSimpArgs false
namespace Go.Proofs.YteaakbeemhmciaaDoor
open Go.RowKit Go.Ulp
set_option linter.unusedVariables false
set_option linter.unusedSimpArgs false
set_option maxHeartbeats 2000000
set_option maxRecDepth 100000
theorem ent_prod1 (caps : Array Value) (w : World) : Sem.run Tryd.prog (callFunc 81 caps) w = .ok (.enter 81 caps) w := by
  simp [callFunc, go_sem, Tryd.func81, Tryd.f81]
theorem ent_prod2 (caps : Array Value) (w : World) : Sem.run Tryd.prog (callFunc 83 caps) w = .ok (.enter 83 caps) w := by
  simp [callFunc, go_sem, Tryd.func83, Tryd.f83]
theorem prodC1_any (g0 g1 g2 : Nat) (x y : Int) (hx : 0 ≤ x ∧ x < 18446744073709551616) (hy : 0 ≤ y ∧ y < 18446744073709551616) (mode : Int) (m0 : 0 ≤ mode) (m1 : mode ≤ 4) (w : World) (c0 : CV w g0 (.int .u64 x)) (c1 : CV w g1 (.int .u64 y)) (c2 : CV w g2 (.int .i64 mode)) :
    Calls Tryd.prog 81 #[.pointer (some ⟨g0, 0, none⟩), .pointer (some ⟨g1, 0, none⟩), .pointer (some ⟨g2, 0, none⟩)] w (RetX w (pX (kindP x y) (sgx x y) (mulD (fv x) (fv y)) mode) (pC (kindP x y) (mulD (fv x) (fv y)) mode)) := by
  have PO := hid (fun w => productOf_any x y hx hy mode m0 m1 w)
  generalize pX (kindP x y) (sgx x y) (mulD (fv x) (fv y)) mode = sx at *
  generalize pC (kindP x y) (mulD (fv x) (fv y)) mode = sc at *
  obtain ⟨k0, f0⟩ := c0
  obtain ⟨k1, f1⟩ := c1
  obtain ⟨k2, f2⟩ := c2
  clear hx hy m0 m1
  go_enter Tryd.func81, Tryd.ntmps81
  go_wp2_with (go_at_call 82; (with_reducible refine (PO.out _).mono ?_); rintro en w2 ⟨rfl, hb2⟩)
  refine bodyPost_ret (by simp [results, Tryd.results81, go_sem]; try rfl) rfl ?_
  exact ⟨rfl, hb2⟩
theorem prodC2_any (g0 g1 g2 g3 : Nat) (x y : Int) (hx : 0 ≤ x ∧ x < 18446744073709551616) (hy : 0 ≤ y ∧ y < 18446744073709551616) (z : Nat) (hz : z < 18446744073709551616) (mode : Int) (m0 : 0 ≤ mode) (m1 : mode ≤ 4) (w : World) (c0 : CV w g0 (.int .u64 x)) (c1 : CV w g1 (.int .u64 y)) (c2 : CV w g2 (.int .u64 (z : Int))) (c3 : CV w g3 (.int .i64 mode)) :
    Calls Tryd.prog 83 #[.pointer (some ⟨g0, 0, none⟩), .pointer (some ⟨g1, 0, none⟩), .pointer (some ⟨g2, 0, none⟩), .pointer (some ⟨g3, 0, none⟩)] w (RetX w (fX (kindP x y) (sgx x y) (isNan (z : Int)) (isInf (z : Int)) (mulD (fv x) (fv y)) z mode) (fC (kindP x y) (sgx x y) (isNan (z : Int)) (isInf (z : Int)) (mulD (fv x) (fv y)) z mode)) := by
  have FO := hid (fun w => fusedOf_any x y hx hy z hz mode m0 m1 w)
  generalize fX (kindP x y) (sgx x y) (isNan (z : Int)) (isInf (z : Int)) (mulD (fv x) (fv y)) z mode = sx at *
  generalize fC (kindP x y) (sgx x y) (isNan (z : Int)) (isInf (z : Int)) (mulD (fv x) (fv y)) z mode = sc at *
  obtain ⟨k0, f0⟩ := c0
  obtain ⟨k1, f1⟩ := c1
  obtain ⟨k2, f2⟩ := c2
  obtain ⟨k3, f3⟩ := c3
  clear hx hy hz m0 m1
  go_enter Tryd.func83, Tryd.ntmps83
  go_wp2_with (go_at_call 84; (with_reducible refine (FO.out _).mono ?_); rintro en w2 ⟨rfl, hb2⟩)
  refine bodyPost_ret (by simp [results, Tryd.results83, go_sem]; try rfl) rfl ?_
  exact ⟨rfl, hb2⟩
theorem prodSays_nat (x y : Int) (hx : 0 ≤ x ∧ x < 18446744073709551616) (hy : 0 ≤ y ∧ y < 18446744073709551616) (z : Nat) (hz : z < 18446744073709551616) (mode : Int) (W : World) (hT : Tab 0 W) :
    Calls Tryd.prog 13 #[.int .u64 x, .int .u64 y, .int .u64 (z : Int), .int .i64 mode] W fun e w' => e = .returned (.bool true) ∧ Below W.heap.size W w' := by
  have AD := hid (fun w t => prodMul_any x y hx hy mode w t)
  have SB := hid (fun w t => fma_any x y hx hy z hz mode w t)
  have TD1 := hid (fun caps w hC => told_md (pX (kindP x y) (sgx x y) (mulD (fv x) (fv y)) mode) (pC (kindP x y) (mulD (fv x) (fv y)) mode) mode 81 caps w (ent_prod1 caps) hC)
  have TD2 := hid (fun caps w hC => told_md (fX (kindP x y) (sgx x y) (isNan (z : Int)) (isInf (z : Int)) (mulD (fv x) (fv y)) z mode) (fC (kindP x y) (sgx x y) (isNan (z : Int)) (isInf (z : Int)) (mulD (fv x) (fv y)) z mode) mode 83 caps w (ent_prod2 caps) hC)
  have C1 := hid (fun g0 g1 g2 w (hk : knownB mode = true) c0 c1 c2 => prodC1_any g0 g1 g2 x y hx hy mode (of_decide_eq_true hk).1 (of_decide_eq_true hk).2 w c0 c1 c2)
  have C2 := hid (fun g0 g1 g2 g3 w (hk : knownB mode = true) c0 c1 c2 c3 => prodC2_any g0 g1 g2 g3 x y hx hy z hz mode (of_decide_eq_true hk).1 (of_decide_eq_true hk).2 w c0 c1 c2 c3)
  have HT := hid hT
  have hmf : ∀ fn first cap w, (Instr.makeFunc fn first cap).run Tryd.prog w = .ok (.func fn first cap) w := fun _ _ _ _ => rfl
  obtain ⟨W0, hW0⟩ : ∃ X, X = (((W.alloc (.cells #[.int .u64 x] 22)).alloc (.cells #[.int .u64 y] 22)).alloc (.cells #[.int .u64 (z : Int)] 22)).alloc (.cells #[.int .i64 mode] 3) := ⟨_, rfl⟩
  have yb0 : Below W.heap.size W W0 := by rw [hW0]; (repeat' (first | (with_reducible assumption) | (with_reducible exact Below.refl _ _) | (with_reducible refine below_al ?_ _) | (with_reducible refine below_drewN ?_ _) | (with_reducible refine Below.drew ?_) | (with_reducible refine Below.alloc ?_ ?_ _) | (with_reducible refine Below.setCell ?_ ?_ _) | (refine below_trans ?_ (by assumption)) | go_size))
  have c0 : CV W0 W.heap.size (.int .u64 x) := by rw [hW0]; exact ((CV.made.below (below_alloc _ _)).below (below_alloc _ _)).below (below_alloc _ _)
  have c1 : CV W0 (W.heap.size + 1) (.int .u64 y) := by
    have h := ((CV.made (w := W.alloc (.cells #[.int .u64 x] 22)) (v := .int .u64 y) (t := 22)).below (below_alloc _ (.cells #[.int .u64 (z : Int)] 22))).below (below_alloc _ (.cells #[.int .i64 mode] 3))
    rw [hW0]; simpa using h
  have c2 : CV W0 (W.heap.size + 1 + 1) (.int .u64 (z : Int)) := by
    have h := (CV.made (w := (W.alloc (.cells #[.int .u64 x] 22)).alloc (.cells #[.int .u64 y] 22)) (v := .int .u64 (z : Int)) (t := 22)).below (below_alloc _ (.cells #[.int .i64 mode] 3))
    rw [hW0]; simpa using h
  have c3 : CV W0 (W.heap.size + 1 + 1 + 1) (.int .i64 mode) := by
    have h := CV.made (w := ((W.alloc (.cells #[.int .u64 x] 22)).alloc (.cells #[.int .u64 y] 22)).alloc (.cells #[.int .u64 (z : Int)] 22)) (v := .int .i64 mode) (t := 3)
    rw [hW0]; simpa using h
  obtain ⟨X1, hX1⟩ : ∃ X, X = mdX mode (pX (kindP x y) (sgx x y) (mulD (fv x) (fv y)) mode) := ⟨_, rfl⟩
  obtain ⟨K1, hK1⟩ : ∃ X, X = mdC mode (pC (kindP x y) (mulD (fv x) (fv y)) mode) := ⟨_, rfl⟩
  obtain ⟨X2, hX2⟩ : ∃ X, X = mdX mode (fX (kindP x y) (sgx x y) (isNan (z : Int)) (isInf (z : Int)) (mulD (fv x) (fv y)) z mode) := ⟨_, rfl⟩
  obtain ⟨K2, hK2⟩ : ∃ X, X = mdC mode (fC (kindP x y) (sgx x y) (isNan (z : Int)) (isInf (z : Int)) (mulD (fv x) (fv y)) z mode) := ⟨_, rfl⟩
  obtain ⟨ER, hER⟩ : ∃ X, X = mdE mode := ⟨_, rfl⟩
  rw [← hX1, ← hK1, ← hER] at AD TD1
  rw [← hX2, ← hK2, ← hER] at SB TD2
  generalize pX (kindP x y) (sgx x y) (mulD (fv x) (fv y)) mode = sx1 at *
  generalize pC (kindP x y) (mulD (fv x) (fv y)) mode = sc1 at *
  generalize fX (kindP x y) (sgx x y) (isNan (z : Int)) (isInf (z : Int)) (mulD (fv x) (fv y)) z mode = sx2 at *
  generalize fC (kindP x y) (sgx x y) (isNan (z : Int)) (isInf (z : Int)) (mulD (fv x) (fv y)) z mode = sc2 at *
  clear hX1 hK1 hX2 hK2 hER hT
  obtain ⟨x0, x1⟩ := hx
  obtain ⟨y0, y1⟩ := hy
  go_enter Tryd.func13, Tryd.ntmps13
  go_upto_region 1 with fail
  rw [← hW0]
  obtain ⟨k0, f0⟩ := id c0
  obtain ⟨k1, f1⟩ := id c1
  obtain ⟨k2, f2⟩ := id c2
  obtain ⟨k3, f3⟩ := id c3
  clear hW0
  go_upto_region 2 with (go_at_call 79; (with_reducible refine (AD.out _ (HT.out.below yb0)).mono ?_); rintro en w1 ⟨rfl, hb1⟩)
  replace c0 := c0.below hb1
  replace c1 := c1.below hb1
  replace c2 := c2.below hb1
  replace c3 := c3.below hb1
  replace yb0 := below_trans yb0 hb1
  clear k0 f0 k1 f1 k2 f2 k3 f3 hb1
  obtain ⟨k0, f0⟩ := id c0
  obtain ⟨k1, f1⟩ := id c1
  obtain ⟨k2, f2⟩ := id c2
  obtain ⟨k3, f3⟩ := id c3
  go_upto_region 3 with (go_at_call 80; (with_reducible refine (SB.out _ (HT.out.below yb0)).mono ?_); rintro en w2 ⟨rfl, hb2⟩)
  have E0 := hid (c0.below hb2)
  have E1 := hid (c1.below hb2)
  have E2 := hid (c2.below hb2)
  have E3 := hid (c3.below hb2)
  replace yb0 := below_trans yb0 hb2
  clear k0 f0 k1 f1 k2 f2 k3 f3 hb2 c0 c1 c2 c3 AD SB
  obtain ⟨k3, f3⟩ := E3.out
  go_wp2_with (first
    | (go_at_call 55; (with_reducible refine (TD1.out _ _ (fun hk w' hb' => C1.out _ _ _ w' hk (E0.out.below hb') (E1.out.below hb') (E3.out.below hb'))).mono ?_); rintro en w3 ⟨rfl, hb3⟩; obtain ⟨l3, m3⟩ := E3.out.below hb3)
    | (go_at_call 55; (with_reducible refine (TD2.out _ _ (fun hk w' hb' => C2.out _ _ _ _ w' hk ((E0.out.below hb3).below hb') ((E1.out.below hb3).below hb') ((E2.out.below hb3).below hb') ((E3.out.below hb3).below hb'))).mono ?_); rintro en w4 ⟨rfl, hb4⟩))
  go_ret
  exact ⟨rfl, below_trans (below_trans yb0 hb3) hb4⟩
theorem prodSays_walk (x y z mode : Int) (hx : 0 ≤ x ∧ x < 18446744073709551616) (hy : 0 ≤ y ∧ y < 18446744073709551616) (hz : 0 ≤ z ∧ z < 18446744073709551616) (hm : -9223372036854775808 ≤ mode ∧ mode ≤ 9223372036854775807) (W : World) (hT : Tab 0 W) :
    Calls Tryd.prog 13 #[.int .u64 x, .int .u64 y, .int .u64 z, .int .i64 mode] W fun e w' => e = .returned (.bool true) ∧ Below W.heap.size W w' := by
  obtain ⟨c, rfl⟩ := Int.eq_ofNat_of_zero_le hz.1
  exact prodSays_nat x y hx hy c (by omega) mode W hT
end Go.Proofs.YteaakbeemhmciaaDoor
