/- SumAll and SumSays: the laws' walks. -/
import Derived.Test.YteaakbeemhmciaaDoorSu3
set_option linter.unusedVariables false
set_option linter.unusedSimpArgs false
namespace Go.Ulp
open Go.RowKit
/-- a fresh cell -/
def Fact.cv (B : Nat) (v : Value) : Fact := ⟨fun p w => ∃ g, p = .pointer (some ⟨g, 0, none⟩) ∧ B ≤ g ∧ CV w g v, fun _ _ _ h hb => by
  obtain ⟨g, h1, h2, h3⟩ := h; exact ⟨g, h1, h2, h3.below hb⟩⟩
theorem CV.put {w : World} {g : Nat} {v u : Value} (h : CV w g v) : CV (w.setCell ⟨g, 0, none⟩ u) g u :=
  ⟨World.cell?_setCell_same _ _ _ h.1, by rw [frozen_setCell]; exact h.2⟩
theorem CV.far {w : World} {g b : Nat} {v u : Value} (h : CV w g v) (hne : g ≠ b) : CV (w.setCell ⟨b, 0, none⟩ u) g v :=
  ⟨by rw [World.cell?_setCell_other (h := fun e => hne (congrArg Addr.block e).symm)]; exact h.1, by rw [frozen_setCell]; exact h.2⟩
theorem neg_nat (b : Nat) (hb : b < 18446744073709551616) : ∃ nb : Nat, (nb : Int) = negOf (b : Int) ∧ nb < 18446744073709551616 ∧ (b : Int) % 9223372036854775808 + sgb (!negB (b : Int)) = (nb : Int) := by
  have h := negOf_bd (b : Int) (by omega) (by omega)
  obtain ⟨nb, e⟩ := Int.eq_ofNat_of_zero_le h.1
  refine ⟨nb, e.symm, by omega, ?_⟩
  rw [← e]
  unfold negOf sgb negB
  by_cases c : (b : Int) < 9223372036854775808
  · rw [if_pos c, decide_eq_false (by omega)]
    rw [if_pos (by rfl)]; omega
  · rw [if_neg c, decide_eq_true (by omega)]
    rw [if_neg (by decide)]; omega
end Go.Ulp
namespace Go.Proofs.YteaakbeemhmciaaDoor
open Go.RowKit Go.Ulp
set_option linter.unusedVariables false
set_option linter.unusedSimpArgs false
set_option maxHeartbeats 2000000
set_option maxRecDepth 100000
theorem ent_sumAll1 (caps : Array Value) (w : World) : Sem.run Tryd.prog (callFunc 73 caps) w = .ok (.enter 73 caps) w := by
  simp [callFunc, go_sem, Tryd.func73, Tryd.f73]
theorem ent_sum1 (caps : Array Value) (w : World) : Sem.run Tryd.prog (callFunc 69 caps) w = .ok (.enter 69 caps) w := by
  simp [callFunc, go_sem, Tryd.func69, Tryd.f69]
theorem ent_sum2 (caps : Array Value) (w : World) : Sem.run Tryd.prog (callFunc 71 caps) w = .ok (.enter 71 caps) w := by
  simp [callFunc, go_sem, Tryd.func71, Tryd.f71]
theorem sumAllC_any (g0 g1 : Nat) (ao : Option Addr) (cap : Nat) (L : List Nat) (mode : Int) (w : World) (h : Ns .u64 w ao cap L) (hL : ∀ j, lb L j < 18446744073709551616) (hlen : L.length ≤ 200) (m0 : 0 ≤ mode) (m1 : mode ≤ 4) (c0 : CV w g0 (.slice ao L.length cap)) (c1 : CV w g1 (.int .i64 mode)) :
    Calls Tryd.prog 73 #[.pointer (some ⟨g0, 0, none⟩), .pointer (some ⟨g1, 0, none⟩)] w (RetX w (sumX L mode) (sumC L mode)) := by
  have SO := hid (sumOf_any ao cap L mode w h hL hlen m0 m1)
  generalize sumX L mode = sx at *
  generalize sumC L mode = sc at *
  obtain ⟨k0, f0⟩ := c0
  obtain ⟨k1, f1⟩ := c1
  clear h hL hlen m0 m1
  go_enter Tryd.func73, Tryd.ntmps73
  go_wp2_with (go_at_call 70; (with_reducible refine SO.out.mono ?_); rintro en w2 ⟨rfl, hb2⟩)
  refine bodyPost_ret (by simp [results, Tryd.results73, go_sem]; try rfl) rfl ?_
  exact ⟨rfl, hb2⟩
theorem sumAll_walk (L : List Nat) (ao : Option Addr) (cap : Nat) (mode : Int) (W : World) (hN : Ns .u64 W ao cap L) (hl : AllLt 18446744073709551616 L) (wm : -9223372036854775808 ≤ mode ∧ mode ≤ 9223372036854775807) (hT : Tab 0 W) :
    Calls Tryd.prog 10 #[.slice ao L.length cap, .int .i64 mode] W fun e w' => e = .returned (.bool true) ∧ Below W.heap.size W w' := by
  have hL : ∀ j, lb L j < 18446744073709551616 := fun j => lb_lt (by omega) hl j
  have hcap := hN.1
  have hcap2 := hN.2.1
  unfold maxLen at hcap2
  have BT := hid (show ∀ w, Calls Tryd.prog 27 #[.int .i64 mode, .int .i64 0, .int .i64 4] w fun e w' => e = .returned (.bool (knownB mode)) ∧ w = w' from fun w => between_any mode 0 4 w)
  have SA := hid (fun w h t => sumAllP_any ao cap L mode w h hL t)
  have HN := hid hN
  have HT := hid hT
  have hmf : ∀ fn first cap w, (Instr.makeFunc fn first cap).run Tryd.prog w = .ok (.func fn first cap) w := fun _ _ _ _ => rfl
  have yb0 : Below W.heap.size W ((W.alloc (.cells #[.slice ao L.length cap] 58)).alloc (.cells #[.int .i64 mode] 3)) := by (repeat' (first | (with_reducible assumption) | (with_reducible exact Below.refl _ _) | (with_reducible refine below_al ?_ _) | (with_reducible refine below_drewN ?_ _) | (with_reducible refine Below.drew ?_) | (with_reducible refine Below.alloc ?_ ?_ _) | (with_reducible refine Below.setCell ?_ ?_ _) | (refine below_trans ?_ (by assumption)) | go_size))
  have c0 : CV ((W.alloc (.cells #[.slice ao L.length cap] 58)).alloc (.cells #[.int .i64 mode] 3)) W.heap.size (.slice ao L.length cap) := CV.made.below (below_alloc _ _)
  have c1 : CV ((W.alloc (.cells #[.slice ao L.length cap] 58)).alloc (.cells #[.int .i64 mode] 3)) (W.heap.size + 1) (.int .i64 mode) := by
    have h := CV.made (w := W.alloc (.cells #[.slice ao L.length cap] 58)) (v := .int .i64 mode) (t := 3)
    simpa using h
  have TD := hid (fun caps w hC => told_md (sumX L mode) (sumC L mode) mode 73 caps w (ent_sumAll1 caps) hC)
  have CL := hid (fun (hlen : L.length ≤ 200) (hk : knownB mode = true) g0 g1 w h c0 c1 => sumAllC_any g0 g1 ao cap L mode w h hL hlen (of_decide_eq_true hk).1 (of_decide_eq_true hk).2 c0 c1)
  clear hN hT hl hL
  cases hk : knownB mode
  · obtain ⟨e1, e2, e3⟩ := md_no hk (sumX L mode) (sumC L mode)
    have e4 : (if 200 < L.length then 0 else mdX mode (sumX L mode)) = 0 := by rw [e1]; split <;> rfl
    have e5 : (if 200 < L.length then false else mdC mode (sumC L mode)) = false := by rw [e2]; split <;> rfl
    have e6 : ¬ (knownB mode = true ∧ 200 < L.length) := fun h => by rw [hk] at h; cases h.1
    rw [e4, e5, e3, if_neg e6] at SA
    have TD2 := hid (fun caps w => TD.out caps w (fun h => by rw [hk] at h; cases h))
    rw [e1, e2, e3] at TD2
    rw [hk] at BT
    clear e1 e2 e3 e4 e5 e6 hk TD CL
    go_enter Tryd.func10, Tryd.ntmps10
    go_upto_region 2 with (go_at_call 72; (with_reducible refine (SA.out _ (HN.out.below yb0) (HT.out.below yb0)).mono ?_); rintro en w1 ⟨rfl, hb1⟩)
    have d0 := c0.below hb1
    have d1 := c1.below hb1
    obtain ⟨k0, f0⟩ := id d0
    obtain ⟨k1, f1⟩ := id d1
    go_wp2_with (first
      | (go_at_call 27; (with_reducible refine (BT.out _).mono ?_); rintro en w2 ⟨rfl, rfl⟩)
      | (go_at_call 55; (with_reducible refine (TD2.out _ _).mono ?_); rintro en w3 ⟨rfl, hb3⟩))
    go_ret
    exact ⟨rfl, below_trans (below_trans yb0 hb1) hb3⟩
  · obtain ⟨e1, e2, e3⟩ := md_yes hk (sumX L mode) (sumC L mode)
    rw [e1, e2, e3] at SA TD
    rw [hk] at BT
    by_cases hlen : 200 < L.length
    · rw [if_pos hlen, if_pos hlen, if_pos ⟨hk, hlen⟩] at SA
      have hl2 : (200 : Int) < (L.length : Int) := by omega
      clear e1 e2 e3 hk hlen TD CL
      go_enter Tryd.func10, Tryd.ntmps10
      go_upto_region 2 with (go_at_call 72; (with_reducible refine (SA.out _ (HN.out.below yb0) (HT.out.below yb0)).mono ?_); rintro en w1 ⟨rfl, hb1⟩)
      have d0 := c0.below hb1
      have d1 := c1.below hb1
      obtain ⟨k0, f0⟩ := id d0
      obtain ⟨k1, f1⟩ := id d1
      go_wp2_with (go_at_call 27; (with_reducible refine (BT.out _).mono ?_); rintro en w2 ⟨rfl, rfl⟩)
      go_ret
      exact ⟨rfl, below_trans yb0 hb1⟩
    · rw [if_neg hlen, if_neg hlen, if_neg (fun h => hlen h.2)] at SA
      have hl2 : ¬ (200 : Int) < (L.length : Int) := by omega
      have CL2 := hid (fun g0 g1 w h c0 c1 => CL.out (by omega) hk g0 g1 w h c0 c1)
      generalize sumX L mode = sx at *
      generalize sumC L mode = sc at *
      clear e1 e2 e3 hk hlen CL
      go_enter Tryd.func10, Tryd.ntmps10
      go_upto_region 2 with (go_at_call 72; (with_reducible refine (SA.out _ (HN.out.below yb0) (HT.out.below yb0)).mono ?_); rintro en w1 ⟨rfl, hb1⟩)
      have d0 := c0.below hb1
      have d1 := c1.below hb1
      have yb1 := below_trans yb0 hb1
      obtain ⟨k0, f0⟩ := id d0
      obtain ⟨k1, f1⟩ := id d1
      have D0 := hid d0
      have D1 := hid d1
      clear d0 d1 c0 c1
      go_wp2_with (first
        | (go_at_call 27; (with_reducible refine (BT.out _).mono ?_); rintro en w2 ⟨rfl, rfl⟩)
        | (go_at_call 55; (with_reducible refine (TD.out _ _ (fun _ w' hb' => CL2.out _ _ w' (HN.out.below (below_trans yb1 hb')) (D0.out.below hb') (D1.out.below hb'))).mono ?_); rintro en w3 ⟨rfl, hb3⟩))
      go_ret
      exact ⟨rfl, below_trans yb1 hb3⟩
theorem sumC1_any (g0 g1 g2 a b : Nat) (ha : a < 18446744073709551616) (hb : b < 18446744073709551616) (mode : Int) (m0 : 0 ≤ mode) (m1 : mode ≤ 4) (w : World) (c0 : CV w g0 (.int .u64 (a : Int))) (c1 : CV w g1 (.int .u64 (b : Int))) (c2 : CV w g2 (.int .i64 mode)) :
    Calls Tryd.prog 69 #[.pointer (some ⟨g0, 0, none⟩), .pointer (some ⟨g1, 0, none⟩), .pointer (some ⟨g2, 0, none⟩)] w (RetX w (sumX [a, b] mode) (sumC [a, b] mode)) := by
  have SO := hid (fun g w h => sumOf_any (some ⟨g, 0, none⟩) 2 [a, b] mode w h (two_lt a b ha hb) (by simp) m0 m1)
  have N2 := hid (fun w t => ns2 w t a b)
  have hl : [a, b].length = 2 := rfl
  rw [hl] at SO
  generalize sumX [a, b] mode = sx at *
  generalize sumC [a, b] mode = sc at *
  obtain ⟨k0, f0⟩ := c0
  obtain ⟨k1, f1⟩ := c1
  obtain ⟨k2, f2⟩ := c2.below (below_alloc _ (.cells #[.int .u64 (a : Int), .int .u64 (b : Int)] 22))
  clear ha hb m0 m1 hl
  go_enter Tryd.func69, Tryd.ntmps69
  go_wp2_with (go_at_call 70; (with_reducible refine (SO.out _ _ (N2.out _ _)).mono ?_); rintro en w2 ⟨rfl, hb2⟩)
  refine bodyPost_ret (by simp [results, Tryd.results69, go_sem]; try rfl) rfl ?_
  exact ⟨rfl, below_trans (below_alloc _ _) hb2⟩
theorem sumC2_any (g0 g1 g2 a b : Nat) (ha : a < 18446744073709551616) (hb : b < 18446744073709551616) (mode : Int) (m0 : 0 ≤ mode) (m1 : mode ≤ 4) (w : World) (c0 : CV w g0 (.int .u64 (a : Int))) (c1 : CV w g1 (.int .u64 (b : Int))) (c2 : CV w g2 (.int .i64 mode)) :
    Calls Tryd.prog 71 #[.pointer (some ⟨g0, 0, none⟩), .pointer (some ⟨g1, 0, none⟩), .pointer (some ⟨g2, 0, none⟩)] w (RetX w (sumX [a, b] mode) (sumC [a, b] mode)) := by
  have SO := hid (fun g w h => sumOf_any (some ⟨g, 0, none⟩) 2 [a, b] mode w h (two_lt a b ha hb) (by simp) m0 m1)
  have N2 := hid (fun w t => ns2 w t a b)
  have hl : [a, b].length = 2 := rfl
  rw [hl] at SO
  generalize sumX [a, b] mode = sx at *
  generalize sumC [a, b] mode = sc at *
  obtain ⟨k0, f0⟩ := c0
  obtain ⟨k1, f1⟩ := c1
  obtain ⟨k2, f2⟩ := c2.below (below_alloc _ (.cells #[.int .u64 (a : Int), .int .u64 (b : Int)] 22))
  clear ha hb m0 m1 hl
  go_enter Tryd.func71, Tryd.ntmps71
  go_wp2_with (go_at_call 70; (with_reducible refine (SO.out _ _ (N2.out _ _)).mono ?_); rintro en w2 ⟨rfl, hb2⟩)
  refine bodyPost_ret (by simp [results, Tryd.results71, go_sem]; try rfl) rfl ?_
  exact ⟨rfl, below_trans (below_alloc _ _) hb2⟩
theorem sumSays_nat (a b : Nat) (ha : a < 18446744073709551616) (hb : b < 18446744073709551616) (mode : Int) (W : World) (hT : Tab 0 W) :
    Calls Tryd.prog 9 #[.int .u64 (a : Int), .int .u64 (b : Int), .int .i64 mode] W fun e w' => e = .returned (.bool true) ∧ Below W.heap.size W w' := by
  obtain ⟨nb, hn, hnb, hsg⟩ := neg_nat b hb
  have hnn : 0 ≤ (b : Int) ∧ (b : Int) < 18446744073709551616 := ⟨by omega, by omega⟩
  have AD := hid (fun w t => sumAdd_any a b ha hb mode w t)
  have SB := hid (fun w t => sumSub_any a b ha hb nb hn mode w t)
  have TD1 := hid (fun caps w hC => told_md (sumX [a, b] mode) (sumC [a, b] mode) mode 69 caps w (ent_sum1 caps) hC)
  have TD2 := hid (fun caps w hC => told_md (sumX [a, nb] mode) (sumC [a, nb] mode) mode 71 caps w (ent_sum2 caps) hC)
  have C1 := hid (fun g0 g1 g2 w (hk : knownB mode = true) c0 c1 c2 => sumC1_any g0 g1 g2 a b ha hb mode (of_decide_eq_true hk).1 (of_decide_eq_true hk).2 w c0 c1 c2)
  have C2 := hid (fun g0 g1 g2 w (hk : knownB mode = true) c0 c1 c2 => sumC2_any g0 g1 g2 a nb ha hnb mode (of_decide_eq_true hk).1 (of_decide_eq_true hk).2 w c0 c1 c2)
  have MI := hid (fun w => rMinus_any (b : Int) hnn.1 hnn.2 w)
  have SG := hid (show ∀ w, Calls Tryd.prog 62 #[.int .u64 ((b : Int) % 9223372036854775808), .bool (!negB (b : Int))] w fun e w' => e = .returned (.int .u64 (nb : Int)) ∧ w = w' from fun w => by
    rw [← hsg]; exact rSigned_any _ (by omega) (by omega) _ w)
  have HT := hid hT
  have hmf : ∀ fn first cap w, (Instr.makeFunc fn first cap).run Tryd.prog w = .ok (.func fn first cap) w := fun _ _ _ _ => rfl
  have yb0 : Below W.heap.size W (((W.alloc (.cells #[.int .u64 (a : Int)] 22)).alloc (.cells #[.int .u64 (b : Int)] 22)).alloc (.cells #[.int .i64 mode] 3)) := by (repeat' (first | (with_reducible assumption) | (with_reducible exact Below.refl _ _) | (with_reducible refine below_al ?_ _) | (with_reducible refine below_drewN ?_ _) | (with_reducible refine Below.drew ?_) | (with_reducible refine Below.alloc ?_ ?_ _) | (with_reducible refine Below.setCell ?_ ?_ _) | (refine below_trans ?_ (by assumption)) | go_size))
  have c0 : CV (((W.alloc (.cells #[.int .u64 (a : Int)] 22)).alloc (.cells #[.int .u64 (b : Int)] 22)).alloc (.cells #[.int .i64 mode] 3)) W.heap.size (.int .u64 (a : Int)) := (CV.made.below (below_alloc _ _)).below (below_alloc _ _)
  have c1 : CV (((W.alloc (.cells #[.int .u64 (a : Int)] 22)).alloc (.cells #[.int .u64 (b : Int)] 22)).alloc (.cells #[.int .i64 mode] 3)) (W.heap.size + 1) (.int .u64 (b : Int)) := by
    have h := (CV.made (w := W.alloc (.cells #[.int .u64 (a : Int)] 22)) (v := .int .u64 (b : Int)) (t := 22)).below (below_alloc _ (.cells #[.int .i64 mode] 3))
    simpa using h
  have c2 : CV (((W.alloc (.cells #[.int .u64 (a : Int)] 22)).alloc (.cells #[.int .u64 (b : Int)] 22)).alloc (.cells #[.int .i64 mode] 3)) (W.heap.size + 1 + 1) (.int .i64 mode) := by
    have h := CV.made (w := (W.alloc (.cells #[.int .u64 (a : Int)] 22)).alloc (.cells #[.int .u64 (b : Int)] 22)) (v := .int .i64 mode) (t := 3)
    simpa using h
  obtain ⟨X1, hX1⟩ : ∃ X, X = mdX mode (sumX [a, b] mode) := ⟨_, rfl⟩
  obtain ⟨K1, hK1⟩ : ∃ X, X = mdC mode (sumC [a, b] mode) := ⟨_, rfl⟩
  obtain ⟨X2, hX2⟩ : ∃ X, X = mdX mode (sumX [a, nb] mode) := ⟨_, rfl⟩
  obtain ⟨K2, hK2⟩ : ∃ X, X = mdC mode (sumC [a, nb] mode) := ⟨_, rfl⟩
  obtain ⟨ER, hER⟩ : ∃ X, X = mdE mode := ⟨_, rfl⟩
  rw [← hX1, ← hK1, ← hER] at AD TD1
  rw [← hX2, ← hK2, ← hER] at SB TD2
  generalize sumX [a, b] mode = sx1 at *
  generalize sumC [a, b] mode = sc1 at *
  generalize sumX [a, nb] mode = sx2 at *
  generalize sumC [a, nb] mode = sc2 at *
  clear hX1 hK1 hX2 hK2 hER hn hnb hsg hT ha hb
  go_enter Tryd.func9, Tryd.ntmps9
  obtain ⟨k0, f0⟩ := id c0
  obtain ⟨k1, f1⟩ := id c1
  obtain ⟨k2, f2⟩ := id c2
  go_upto_region 2 with (go_at_call 67; (with_reducible refine (AD.out _ (HT.out.below yb0)).mono ?_); rintro en w1 ⟨rfl, hb1⟩)
  have d0 := c0.below hb1
  have d1 := c1.below hb1
  have d2 := c2.below hb1
  have yb1 := below_trans yb0 hb1
  clear c0 c1 c2 k0 f0 k1 f1 k2 f2 yb0 hb1
  obtain ⟨k0, f0⟩ := id d0
  obtain ⟨k1, f1⟩ := id d1
  obtain ⟨k2, f2⟩ := id d2
  go_upto_region 3 with (go_at_call 68; (with_reducible refine (SB.out _ (HT.out.below yb1)).mono ?_); rintro en w2 ⟨rfl, hb2⟩)
  replace d0 := d0.below hb2
  replace d1 := d1.below hb2
  replace d2 := d2.below hb2
  replace yb1 := below_trans yb1 hb2
  clear k0 f0 k1 f1 k2 f2 hb2
  refine wp_region_growF 7 [30, 31, 32, 33, 34, 35, 13] [Fact.is (.int .u64 (b : Int)), Fact.is (.int .u64 ((b : Int) % 9223372036854775808)), Fact.is (.int .u64 (b : Int)), Fact.is (.bool (negB (b : Int))), Fact.is (.bool (!negB (b : Int))), Fact.is (.int .u64 (nb : Int)), Fact.cv w2.heap.size (.int .u64 0)] [6] (by kernel_rfl) (by kernel_rfl) ⟨?o0, ?o1, ?o2, ?o3, ?o4, ?o5, ?o6, trivial⟩ ?after
  case o0 => (refine StepOKF.plain rfl ?_; intro ρ w1 R hρ hb hp hR; have e4 : ρ (.tmp 4) = .pointer (some ⟨W.heap.size + 1, 0, none⟩) := hρ.tmp 4 rfl; obtain ⟨k1, f1⟩ := d1.below hb; replace hR := fun v w2 h1 h2 => hR v w2 h1 h2 (fun h => absurd h (by decide)); have hcon := hρ.con; have hfn := hρ.fn; clear hρ hp; unfold OpRun; go_simp; exact hR _ _ (Below.refl _ _) rfl)
  case o1 => (refine StepOKF.plain rfl ?_; intro ρ w1 R hρ hb hp hR; have e30 : ρ (.tmp 30) = _ := hp 0 30 rfl rfl; replace hR := fun v w2 h1 h2 => hR v w2 h1 h2 (fun h => absurd h (by decide)); have hcon := hρ.con; have hfn := hρ.fn; clear hρ hp; unfold OpRun; go_simp; exact hR _ _ (Below.refl _ _) rfl)
  case o2 => (refine StepOKF.plain rfl ?_; intro ρ w1 R hρ hb hp hR; have e4 : ρ (.tmp 4) = .pointer (some ⟨W.heap.size + 1, 0, none⟩) := hρ.tmp 4 rfl; obtain ⟨k1, f1⟩ := d1.below hb; replace hR := fun v w2 h1 h2 => hR v w2 h1 h2 (fun h => absurd h (by decide)); have hcon := hρ.con; have hfn := hρ.fn; clear hρ hp; unfold OpRun; go_simp; exact hR _ _ (Below.refl _ _) rfl)
  case o3 => (refine StepOKF.plain rfl ?_; intro ρ w1 R hρ hb hp hR; have e32 : ρ (.tmp 32) = _ := hp 2 32 rfl rfl; replace hR := fun v w2 h1 h2 => hR v w2 h1 h2 (fun h => absurd h (by decide)); have hcon := hρ.con; have hfn := hρ.fn; clear hρ hp; unfold OpRun; go_simp; (refine (MI.out _).mono ?_; rintro e wn ⟨rfl, rfl⟩; exact ⟨_, rfl, hR _ _ (Below.refl _ _) rfl⟩))
  case o4 => (refine StepOKF.plain rfl ?_; intro ρ w1 R hρ hb hp hR; have e33 : ρ (.tmp 33) = _ := hp 3 33 rfl rfl; replace hR := fun v w2 h1 h2 => hR v w2 h1 h2 (fun h => absurd h (by decide)); have hcon := hρ.con; have hfn := hρ.fn; clear hρ hp; unfold OpRun; go_simp; exact hR _ _ (Below.refl _ _) rfl)
  case o5 => (refine StepOKF.plain rfl ?_; intro ρ w1 R hρ hb hp hR; have e31 : ρ (.tmp 31) = _ := hp 1 31 rfl rfl; have e34 : ρ (.tmp 34) = _ := hp 4 34 rfl rfl; replace hR := fun v w2 h1 h2 => hR v w2 h1 h2 (fun h => absurd h (by decide)); have hcon := hρ.con; have hfn := hρ.fn; clear hρ hp; unfold OpRun; go_simp; (refine (SG.out _).mono ?_; rintro e wn ⟨rfl, rfl⟩; exact ⟨_, rfl, hR _ _ (Below.refl _ _) rfl⟩))
  case o6 => (refine StepOKF.plain rfl ?_; intro ρ w1 R hρ hb hp hR; have hcon := hρ.con; have hfn := hρ.fn; clear hρ hp; unfold OpRun; go_simp; exact hR _ _ (below_alloc _ _) ⟨_, rfl, hb.size, CV.made⟩ (fun _ => ⟨_, rfl, Nat.le_refl _, by simp⟩))
  case after =>
    intro u wn hb hf hd
    have f13 := hf 6 13 (by omega) rfl
    have e35 : u 35 = _ := hf 5 35 (by omega) rfl
    clear hf hd
    simp only [putAll, Act.put, List.setIfInBounds_toArray, List.set_cons_zero, List.set_cons_succ, List.drop_succ_cons, List.drop_zero, List.drop_nil]
    rw [e35]
    obtain ⟨g, e13, hg, cg⟩ := f13
    rw [e13]
    clear e13
    have hs1 := World.block_lt_of_cell? _ _ d0.1
    have hs2 := World.block_lt_of_cell? _ _ d1.1
    have hs3 := World.block_lt_of_cell? _ _ d2.1
    have hgW : W.heap.size ≤ g := by have := yb1.size; omega
    have e0 := (d0.below hb).far (b := g) (u := .int .u64 (nb : Int)) (by have : W.heap.size < w2.heap.size := hs1; omega)
    have e1 := (d1.below hb).far (b := g) (u := .int .u64 (nb : Int)) (by have : W.heap.size + 1 < w2.heap.size := hs2; omega)
    have e2 := (d2.below hb).far (b := g) (u := .int .u64 (nb : Int)) (by have : W.heap.size + 1 + 1 < w2.heap.size := hs3; omega)
    have eg := cg.put (u := .int .u64 (nb : Int))
    have yb2 : Below W.heap.size W (wn.setCell ⟨g, 0, none⟩ (.int .u64 (nb : Int))) := (below_trans yb1 hb).setCell hgW _
    obtain ⟨kg, fg⟩ := id cg
    go_upto_region 4 with fail
    obtain ⟨W5, hW5⟩ : ∃ X, X = wn.setCell ⟨g, 0, none⟩ (.int .u64 (nb : Int)) := ⟨_, rfl⟩
    rw [← hW5] at e0 e1 e2 eg yb2 ⊢
    have E0 := hid e0
    have E1 := hid e1
    have E2 := hid e2
    have EG := hid eg
    obtain ⟨k2, f2⟩ := id e2
    clear hW5 cg kg fg hb d0 d1 d2 yb1 hs1 hs2 hs3 e0 e1 e2 eg AD SB MI SG
    go_wp2_with (first
      | (go_at_call 55; (with_reducible refine (TD1.out _ _ (fun hk w' hb' => C1.out _ _ _ w' hk (E0.out.below hb') (E1.out.below hb') (E2.out.below hb'))).mono ?_); rintro en w3 ⟨rfl, hb3⟩; obtain ⟨l2, m2⟩ := E2.out.below hb3)
      | (go_at_call 55; (with_reducible refine (TD2.out _ _ (fun hk w' hb' => C2.out _ _ _ w' hk ((E0.out.below hb3).below hb') ((EG.out.below hb3).below hb') ((E2.out.below hb3).below hb'))).mono ?_); rintro en w4 ⟨rfl, hb4⟩))
    go_ret
    exact ⟨rfl, below_trans (below_trans yb2 hb3) hb4⟩
theorem sumSays_walk (x y mode : Int) (hx : 0 ≤ x ∧ x < 18446744073709551616) (hy : 0 ≤ y ∧ y < 18446744073709551616) (hm : -9223372036854775808 ≤ mode ∧ mode ≤ 9223372036854775807) (W : World) (hT : Tab 0 W) :
    Calls Tryd.prog 9 #[.int .u64 x, .int .u64 y, .int .i64 mode] W fun e w' => e = .returned (.bool true) ∧ Below W.heap.size W w' := by
  obtain ⟨a, rfl⟩ := Int.eq_ofNat_of_zero_le hx.1
  obtain ⟨b, rfl⟩ := Int.eq_ofNat_of_zero_le hy.1
  exact sumSays_nat a b (by omega) (by omega) mode W hT
end Go.Proofs.YteaakbeemhmciaaDoor
