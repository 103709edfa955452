/- ExactSplits: the law's walk. -/
import Derived.Test.YteaakbeemhmciaaDoorEs1
import Derived.Test.YteaakbeemhmciaaDoorEx0
set_option linter.unusedVariables false
set_option linter.unusedSimpArgs false
namespace Go.Ulp
open Go.RowKit
/-- a Dyad and whether it is changed, among the values of a region -/
def Fact.mp (D : Dy) (ch : Bool) : Fact := ⟨fun v w => ∃ u, v = .tuple #[u, .bool ch] ∧ VD w D u, fun _ _ _ h hb => by
  obtain ⟨u, h1, h2⟩ := h
  exact ⟨u, h1, h2.below hb⟩⟩
theorem cutN_le3 (neg : Bool) (M : Nat) (j mode : Int) (h : 0 < j) : cutN neg M j mode ≤ M + 1 := by
  unfold cutN
  rw [if_neg (by omega)]
  have := Nat.div_le_self M (2 ^ j.toNat)
  split <;> omega
theorem spP_bd (x bits : Int) (h0 : 0 ≤ x) (h1 : x < 18446744073709551616) (b1 : 1 ≤ bits) (b2 : bits ≤ 52) : -1126 ≤ spP x bits ∧ spP x bits ≤ 1077 ∧ (bl (fv x).1.natAbs : Int) ≤ 53 ∧ -1074 ≤ (fv x).2 ∧ (fv x).2 ≤ 1024 ∧ (fv x).1.natAbs < 2 ^ 53 := by
  obtain ⟨-, c1, c2, c3⟩ := fv_bd x h0 h1
  have h := (bl_le (fv x).1.natAbs 53).2 c1
  unfold spP
  exact ⟨by omega, by omega, by omega, c2, c3, c1⟩
theorem spCut (x bits : Int) (h0 : 0 ≤ x) (h1 : x < 18446744073709551616) (b1 : 1 ≤ bits) (b2 : bits ≤ 52) : cutN (decide ((fv x).1 < 0)) (fv x).1.natAbs (spP x bits - (fv x).2) 3 < 2 ^ 106 := by
  obtain ⟨p1, p2, p3, c2, c3, c1⟩ := spP_bd x bits h0 h1 b1 b2
  by_cases h : 0 < spP x bits - (fv x).2
  · have := cutN_le3 (decide ((fv x).1 < 0)) (fv x).1.natAbs (spP x bits - (fv x).2) 3 h
    have h2 : (2 : Nat) ^ 53 + 1 ≤ 2 ^ 106 := by decide
    omega
  · unfold cutN
    rw [if_pos (by omega)]
    have hs : spP x bits = (bl (fv x).1.natAbs : Int) + (fv x).2 - bits := rfl
    obtain ⟨k, hk⟩ : ∃ k, k = (-(spP x bits - (fv x).2)).toNat := ⟨_, rfl⟩
    rw [← hk]
    have h3 : (fv x).1.natAbs * 2 ^ k < 2 ^ 53 * 2 ^ k := Nat.mul_lt_mul_of_pos_right c1 (Nat.two_pow_pos k)
    rw [← Nat.pow_add] at h3
    exact Nat.lt_of_lt_of_le h3 (Nat.pow_le_pow_right (by omega) (by omega))
theorem spD_bd (x bits : Int) (h0 : 0 ≤ x) (h1 : x < 18446744073709551616) (b1 : 1 ≤ bits) (b2 : bits ≤ 52) : (spD x bits).1.natAbs < 2 ^ 106 ∧ -1200 ≤ (spD x bits).2 ∧ (spD x bits).2 ≤ 1300 ∧ IsN (spD x bits) := by
  obtain ⟨p1, p2, p3, c2, c3, c1⟩ := spP_bd x bits h0 h1 b1 b2
  have hc := spCut x bits h0 h1 b1 b2
  unfold spD mplD
  split
  · have hI : IsN (fv x) := nrm_isN _ _
    rw [nrm_of_isN _ hI]
    exact ⟨Nat.lt_of_lt_of_le c1 (by decide), by omega, by omega, nrm_isN _ _⟩
  · obtain ⟨k1, k2⟩ := nrm_bd (sg (decide ((fv x).1 < 0)) (cutN (decide ((fv x).1 < 0)) (fv x).1.natAbs (spP x bits - (fv x).2) 3 : Int)) (spP x bits) 106 (by rw [sg_abs, Int.natAbs_natCast]; exact hc)
    exact ⟨k1, by rcases k2 with k | k <;> omega, by rcases k2 with k | k <;> omega, nrm_isN _ _⟩
/-- the high part -/
def hiN (a : Nat) (bits : Int) : Nat := if classOf (a : Int) = 1 then a else (rX (spD (a : Int) bits) 0).toNat
theorem hiN_lt (a : Nat) (bits : Int) (h : a < 18446744073709551616) : hiN a bits < 18446744073709551616 := by
  unfold hiN
  have := rX_bd (spD (a : Int) bits) 0
  split <;> omega
theorem hiN_yes (a : Nat) (bits : Int) (h : classOf (a : Int) = 1) : hiN a bits = a := by unfold hiN; rw [if_pos h]
theorem hiN_no (a : Nat) (bits : Int) (h : classOf (a : Int) ≠ 1) : ((hiN a bits : Nat) : Int) = rX (spD (a : Int) bits) 0 := by
  unfold hiN
  have := rX_bd (spD (a : Int) bits) 0
  rw [if_neg h]; omega
end Go.Ulp
namespace Go.Proofs.YteaakbeemhmciaaDoor
open Go.RowKit Go.Ulp
set_option linter.unusedVariables false
set_option linter.unusedSimpArgs false
set_option maxHeartbeats 2000000
set_option maxRecDepth 100000
theorem split_none (a : Nat) (bits : Int) (ha : a < 18446744073709551616) (hv : hasVal (a : Int) = false) (w : World) :
    Calls Tryd.prog 74 #[.int .u64 (a : Int), .int .i64 bits] w (RetP w 0 0 4) := by
  have HV := hid (fun w => hasValue_any (a : Int) (by omega) (by omega) w)
  rw [hv] at HV
  clear hv
  go_enter Tryd.func74, Tryd.ntmps74
  go_wp2_with (go_at_call 95; (with_reducible refine (HV.out _).mono ?_); rintro en w1 ⟨rfl, rfl⟩)
  refine bodyPost_ret (by simp [results, Tryd.results74, go_sem]; try rfl) rfl ?_
  exact ⟨rfl, Below.refl _ _⟩
theorem split_bad (a : Nat) (bits : Int) (ha : a < 18446744073709551616) (hv : hasVal (a : Int) = true) (hb : ¬ (1 ≤ bits ∧ bits ≤ 52)) (w : World) :
    Calls Tryd.prog 74 #[.int .u64 (a : Int), .int .i64 bits] w (RetP w 0 0 1) := by
  have HV := hid (fun w => hasValue_any (a : Int) (by omega) (by omega) w)
  rw [hv] at HV
  clear hv
  by_cases h1 : bits < 1
  · clear hb
    go_enter Tryd.func74, Tryd.ntmps74
    go_wp2_with (go_at_call 95; (with_reducible refine (HV.out _).mono ?_); rintro en w1 ⟨rfl, rfl⟩)
    refine bodyPost_ret (by simp [results, Tryd.results74, go_sem]; try rfl) rfl ?_
    exact ⟨rfl, Below.refl _ _⟩
  · have h2 : 52 < bits := by omega
    clear hb
    go_enter Tryd.func74, Tryd.ntmps74
    go_wp2_with (go_at_call 95; (with_reducible refine (HV.out _).mono ?_); rintro en w1 ⟨rfl, rfl⟩)
    refine bodyPost_ret (by simp [results, Tryd.results74, go_sem]; try rfl) rfl ?_
    exact ⟨rfl, Below.refl _ _⟩
theorem split_ok (a : Nat) (bits : Int) (ha : a < 18446744073709551616) (hv : hasVal (a : Int) = true) (b1 : 1 ≤ bits) (b2 : bits ≤ 52) (w : World) (hT : Tab 0 w) :
    Calls Tryd.prog 74 #[.int .u64 (a : Int), .int .i64 bits] w (RetP w (hiN a bits : Int) (lessN a (hiN a bits) : Int) 0) := by
  have a0 : 0 ≤ (a : Int) := by omega
  have a1 : (a : Int) < 18446744073709551616 := by omega
  have HV := hid (fun w => hasValue_any (a : Int) a0 a1 w)
  have CL := hid (fun w => class_any (a : Int) a0 a1 w)
  have MI := hid (fun w t => xMinus_any a (hiN a bits) ha (hiN_lt a bits ha) w t)
  have HT := hid hT
  rw [hv] at HV
  clear hv hT
  by_cases hc : classOf (a : Int) = 1
  · rw [hiN_yes a bits hc] at MI ⊢
    rw [hc] at CL
    generalize lessN a a = l at *
    clear hc ha a0 a1
    go_enter Tryd.func74, Tryd.ntmps74
    go_wp2_with (first
      | (go_at_call 95; (with_reducible refine (HV.out _).mono ?_); rintro en w1 ⟨rfl, rfl⟩)
      | (go_at_call 131; (with_reducible refine (CL.out _).mono ?_); rintro en w1 ⟨rfl, rfl⟩)
      | (go_at_call 139; (with_reducible refine (MI.out _ HT.out).mono ?_); rintro en w2 ⟨rfl, hb2⟩))
    refine bodyPost_ret (by simp [results, Tryd.results74, go_sem]; try rfl) rfl ?_
    exact ⟨rfl, hb2⟩
  · have hh := hiN_no a bits hc
    have VA := hid (fun w t => value_any (a : Int) a0 a1 w t)
    obtain ⟨p1, p2, p3, c2, c3, c1⟩ := spP_bd (a : Int) bits a0 a1 b1 b2
    have hcut := spCut (a : Int) bits a0 a1 b1 b2
    obtain ⟨s1, s2, s3, s4⟩ := spD_bd (a : Int) bits a0 a1 b1 b2
    have l1 := limbs_short 53 2 (by omega) _ c1
    have l2 := limbs_short 106 4 (by omega) _ hcut
    have l3 := limbs_short 106 4 (by omega) _ s1
    have MU := hid (show ∀ v w, VD w (fv (a : Int)) v → Tab 0 w → Calls Tryd.prog 109 #[v, .int .i64 (spP (a : Int) bits), .int .i64 3] w (RetMp w (spD (a : Int) bits) (mplC (fv (a : Int)) (spP (a : Int) bits))) from fun v w h t => multiple_any v (fv (a : Int)) (spP (a : Int) bits) 3 w h (by omega) ⟨by omega, by omega⟩ ⟨by omega, by omega⟩ (by omega) t)
    have NU := hid (fun v w h => numberD_any v (spD (a : Int) bits) 0 w h (by omega) ⟨by omega, by omega⟩ s4)
    rw [← hh] at NU
    have LN := hid (fun ao co w h => natLen_any ao co (fv (a : Int)).1.natAbs w h (by omega))
    have hsp : (bl (fv (a : Int)).1.natAbs : Int) + (fv (a : Int)).2 - bits = spP (a : Int) bits := rfl
    have cb := class_bd (a : Int)
    have hne : (classOf (a : Int) != 1) = true := bne_iff_ne.2 hc
    generalize hiN a bits = H at *
    generalize lessN a H = l at *
    generalize rC (spD (a : Int) bits) 0 = rc at *
    generalize mplC (fv (a : Int)) (spP (a : Int) bits) = mc at *
    generalize spD (a : Int) bits = SD at *
    generalize spP (a : Int) bits = sp at *
    generalize fv (a : Int) = D at *
    generalize classOf (a : Int) = c at *
    obtain ⟨bM, hbM⟩ : ∃ b : Int, b = (bl D.1.natAbs : Int) := ⟨_, rfl⟩
    rw [← hbM] at LN hsp p3
    have hw1 : IntKind.i64.wrap (bM + D.2) = bM + D.2 := IntWalk.i64_in _ (by omega)
    have HW2 := hid (show IntKind.i64.wrap (bM + D.2 - bits) = sp by rw [← hsp]; exact IntWalk.i64_in _ (by omega))
    clear hcut s1 s2 s3 s4 l1 l2 l3 hh hc cb c1 p1 p2 p3 hbM ha a0 a1
    have HSP := hid hsp
    clear hsp
    go_enter Tryd.func74, Tryd.ntmps74
    go_upto_region 8 with (first
      | (go_at_call 95; (with_reducible refine (HV.out _).mono ?_); rintro en w1 ⟨rfl, rfl⟩)
      | (go_at_call 131; (with_reducible refine (CL.out _).mono ?_); rintro en w1 ⟨rfl, rfl⟩)
      | (go_at_call 96; (with_reducible refine (VA.out _ HT.out).mono ?_); rintro en w2 ⟨v2, rfl, ⟨a2, c2, rfl, hN2⟩, hb2⟩))
    have zD : QL 25 (w2.alloc (.cells #[.bool (decide (D.1 < 0)), .slice a2 (limbs D.1.natAbs).length c2, .int .i64 D.2] 25)) w2.heap.size (decide (D.1 < 0)) (.slice a2 (limbs D.1.natAbs).length c2) D.2 := QL.made rfl
    have hND := hN2.below (below_alloc w2 (.cells #[.bool (decide (D.1 < 0)), .slice a2 (limbs D.1.natAbs).length c2, .int .i64 D.2] 25))
    have yb := below_trans hb2 (below_alloc w2 (.cells #[.bool (decide (D.1 < 0)), .slice a2 (limbs D.1.natAbs).length c2, .int .i64 D.2] 25))
    have hgw := hb2.size
    obtain ⟨W1, hW1⟩ : ∃ W, W = w2.alloc (.cells #[.bool (decide (D.1 < 0)), .slice a2 (limbs D.1.natAbs).length c2, .int .i64 D.2] 25) := ⟨_, rfl⟩
    obtain ⟨gD, hgD⟩ : ∃ g, g = w2.heap.size := ⟨_, rfl⟩
    rw [← hW1, ← hgD] at zD ⊢
    rw [← hW1] at hND yb
    rw [← hgD] at hgw
    have HND := hid hND
    clear hW1 hgD hN2 hb2 hND HV CL VA hne
    refine wp_region_growL 13 12 [25, 26, 27, 28, 29, 30, 31, 32, 33, 34, 24, 35, 36] [Fact.is (.agg #[.bool (decide (D.1 < 0)), .slice a2 (limbs D.1.natAbs).length c2, .int .i64 D.2]), Fact.is (.pointer (some ⟨gD, 1, none⟩)), Fact.is (.slice a2 (limbs D.1.natAbs).length c2), Fact.is (.int .i64 bM), Fact.is (.pointer (some ⟨gD, 2, none⟩)), Fact.is (.int .i64 D.2), Fact.is (.int .i64 (bM + D.2)), Fact.is (.int .i64 bits), Fact.is (.int .i64 sp), Fact.mp SD mc, Fact.mp SD mc, Fact.vd SD, Fact.is (.bool mc)] [] (by kernel_rfl) (by kernel_rfl) rfl ⟨?o0, ?o1, ?o2, ?o3, ?o4, ?o5, ?o6, ?o7, ?o8, ?o9, ?o10, ?o11, ?o12, trivial⟩ ?late (fun d _ _ _ _ h => by cases d <;> exact h) ?after
    case o0 => (refine StepOKF.plain rfl ?_; intro ρ w1 R hρ hb hp hR; have e8 : ρ (.tmp 8) = .pointer (some ⟨gD, 0, none⟩) := hρ.tmp 8 rfl; obtain ⟨⟨j0, j1, -, -, -⟩, j2, -⟩ := zD.below hb; replace hR := fun v w2 h1 h2 => hR v w2 h1 h2 (fun h => absurd h (by decide)); have hcon := hρ.con; have hfn := hρ.fn; clear hρ hp; unfold OpRun; go_simp; exact hR _ _ (Below.refl _ _) rfl)
    case o1 => (refine StepOKF.plain rfl ?_; intro ρ w1 R hρ hb hp hR; have e8 : ρ (.tmp 8) = .pointer (some ⟨gD, 0, none⟩) := hρ.tmp 8 rfl; replace hR := fun v w2 h1 h2 => hR v w2 h1 h2 (fun h => absurd h (by decide)); have hcon := hρ.con; have hfn := hρ.fn; clear hρ hp; unfold OpRun; go_simp; exact hR _ _ (Below.refl _ _) rfl)
    case o2 => (refine StepOKF.plain rfl ?_; intro ρ w1 R hρ hb hp hR; have e26 : ρ (.tmp 26) = _ := hp 1 26 rfl rfl; obtain ⟨⟨j0, j1, -, -, -⟩, j2, -⟩ := zD.below hb; replace hR := fun v w2 h1 h2 => hR v w2 h1 h2 (fun h => absurd h (by decide)); have hcon := hρ.con; have hfn := hρ.fn; clear hρ hp; unfold OpRun; go_simp; exact hR _ _ (Below.refl _ _) rfl)
    case o3 => (refine StepOKF.plain rfl ?_; intro ρ w1 R hρ hb hp hR; have e27 : ρ (.tmp 27) = _ := hp 2 27 rfl rfl; replace hR := fun v w2 h1 h2 => hR v w2 h1 h2 (fun h => absurd h (by decide)); have hcon := hρ.con; have hfn := hρ.fn; clear hρ hp; unfold OpRun; go_simp; (refine (LN.out _ _ _ (HND.out.below hb)).mono ?_; rintro e wn ⟨rfl, rfl⟩; exact ⟨_, rfl, hR _ _ (Below.refl _ _) rfl⟩))
    case o4 => (refine StepOKF.plain rfl ?_; intro ρ w1 R hρ hb hp hR; have e8 : ρ (.tmp 8) = .pointer (some ⟨gD, 0, none⟩) := hρ.tmp 8 rfl; replace hR := fun v w2 h1 h2 => hR v w2 h1 h2 (fun h => absurd h (by decide)); have hcon := hρ.con; have hfn := hρ.fn; clear hρ hp; unfold OpRun; go_simp; exact hR _ _ (Below.refl _ _) rfl)
    case o5 => (refine StepOKF.plain rfl ?_; intro ρ w1 R hρ hb hp hR; have e29 : ρ (.tmp 29) = _ := hp 4 29 rfl rfl; obtain ⟨⟨j0, j1, -, -, -⟩, j2, -⟩ := zD.below hb; replace hR := fun v w2 h1 h2 => hR v w2 h1 h2 (fun h => absurd h (by decide)); have hcon := hρ.con; have hfn := hρ.fn; clear hρ hp; unfold OpRun; go_simp; exact hR _ _ (Below.refl _ _) rfl)
    case o6 => (refine StepOKF.plain rfl ?_; intro ρ w1 R hρ hb hp hR; have e28 : ρ (.tmp 28) = _ := hp 3 28 rfl rfl; have e30 : ρ (.tmp 30) = _ := hp 5 30 rfl rfl; replace hR := fun v w2 h1 h2 => hR v w2 h1 h2 (fun h => absurd h (by decide)); have hcon := hρ.con; have hfn := hρ.fn; clear hρ hp; unfold OpRun; go_simp; exact hR _ _ (Below.refl _ _) rfl)
    case o7 => (refine StepOKF.plain rfl ?_; intro ρ w1 R hρ hb hp hR; have e1 : ρ (.tmp 1) = .int .i64 bits := hρ.tmp 1 rfl; replace hR := fun v w2 h1 h2 => hR v w2 h1 h2 (fun h => absurd h (by decide)); have hcon := hρ.con; have hfn := hρ.fn; clear hρ hp; unfold OpRun; go_simp; exact hR _ _ (Below.refl _ _) rfl)
    case o8 => (refine StepOKF.plain rfl ?_; intro ρ w1 R hρ hb hp hR; have e31 : ρ (.tmp 31) = _ := hp 6 31 rfl rfl; have e32 : ρ (.tmp 32) = _ := hp 7 32 rfl rfl; have hw2 := HW2.out; replace hR := fun v w2 h1 h2 => hR v w2 h1 h2 (fun h => absurd h (by decide)); have hcon := hρ.con; have hfn := hρ.fn; clear hρ hp; unfold OpRun; go_simp; exact hR _ _ (Below.refl _ _) rfl)
    case o9 => (refine StepOKF.plain rfl ?_; intro ρ w1 R hρ hb hp hR; have e25 : ρ (.tmp 25) = _ := hp 0 25 rfl rfl; have e33 : ρ (.tmp 33) = _ := hp 8 33 rfl rfl; replace hR := fun v w2 h1 h2 => hR v w2 h1 h2 (fun h => absurd h (by decide)); have hcon := hρ.con; have hfn := hρ.fn; clear hρ hp; unfold OpRun; go_simp; (refine (MU.out _ _ (VD.mk (HND.out.below hb)) (HT.out.below (below_trans yb hb))).mono ?_; rintro e wn ⟨v9, rfl, hv9, hbn⟩; exact ⟨_, rfl, hR _ _ hbn ⟨v9, rfl, hv9⟩⟩))
    case o10 => (refine StepOKF.plain rfl ?_; intro ρ w1 R hρ hb hp hR; have f34 := hp 9 34 rfl rfl; replace hR := fun v w2 h1 h2 => hR v w2 h1 h2 (fun h => absurd h (by decide)); have hcon := hρ.con; have hfn := hρ.fn; clear hρ hp; unfold OpRun; go_simp; exact hR _ _ (Below.refl _ _) f34)
    case o11 => (refine StepOKF.plain rfl ?_; intro ρ w1 R hρ hb hp hR; have f24 := hp 10 24 rfl rfl; replace hR := fun v w2 h1 h2 => hR v w2 h1 h2 (fun h => absurd h (by decide)); have hcon := hρ.con; have hfn := hρ.fn; clear hρ hp; unfold OpRun; go_simp; (obtain ⟨u9, e24, hv9⟩ := f24; rw [e24]; exact hR _ _ (Below.refl _ _) hv9))
    case o12 => (refine StepOKF.plain rfl ?_; intro ρ w1 R hρ hb hp hR; have f24 := hp 10 24 rfl rfl; obtain ⟨u9, e24, hv9⟩ := f24; replace hR := fun v w2 h1 h2 => hR v w2 h1 h2 (fun h => absurd h (by decide)); have hcon := hρ.con; have hfn := hρ.fn; clear hρ hp; unfold OpRun; go_simp; exact hR _ _ (Below.refl _ _) rfl)
    case late =>
      intro o ho
      simp only [List.getElem?_cons_succ, List.getElem?_cons_zero, Option.some.injEq] at ho
      subst ho
      refine ⟨rfl, ?_⟩
      intro ρ w1 hρ hb hp
      have f24 := hp 10 24 rfl rfl
      obtain ⟨u9, e24, hv9⟩ := f24
      refine ⟨_, ?_, rfl⟩
      intro w2
      have hcon := hρ.con
      go_simp
      try rfl
    case after =>
      intro u wn hb hf hd
      have f35 := hf 11 35 (by omega) rfl
      clear hf hd
      simp only [putAll, Act.put, List.setIfInBounds_toArray, List.set_cons_zero, List.set_cons_succ, List.drop_succ_cons, List.drop_zero, List.drop_nil]
      obtain ⟨aS, cS, e35, hNS⟩ := f35
      rw [e35]
      have zD2 := zD.below hb
      obtain ⟨⟨k0, k1, f0, f1, hs2⟩, k2, f2⟩ := id zD2
      have zS := zD2.put (decide (SD.1 < 0)) (.slice aS (limbs SD.1.natAbs).length cS) SD.2
      have hNS2 := hNS.set3 zD2 (by intro x h; cases h) (.bool (decide (SD.1 < 0))) (.slice aS (limbs SD.1.natAbs).length cS) (.int .i64 SD.2)
      have yb2 := Go.Ulp.Below.put3 (below_trans yb hb) (g := gD) (by omega) (.bool (decide (SD.1 < 0))) (.slice aS (limbs SD.1.natAbs).length cS) (.int .i64 SD.2)
      clear e35
      go_upto_region 9 with fail
      obtain ⟨W2, hW2⟩ : ∃ Y, Y = ((wn.setCell ⟨gD, 0, none⟩ (.bool (decide (SD.1 < 0)))).setCell ⟨gD, 1, none⟩ (.slice aS (limbs SD.1.natAbs).length cS)).setCell ⟨gD, 2, none⟩ (.int .i64 SD.2) := ⟨_, rfl⟩
      rw [← hW2] at zS hNS2 yb2 ⊢
      clear hW2 k0 k1 f0 f1 hs2 k2 f2 zD2 zD hNS hb yb hw1
      have HNS := hid hNS2
      obtain ⟨⟨j0, j1, -, -, -⟩, j2, -⟩ := id zS
      go_wp2_with (first
        | (go_at_call 126; (with_reducible refine (NU.out _ _ (VD.mk HNS.out)).mono ?_); rintro en w3 ⟨rfl, hb3⟩)
        | (go_at_call 139; (with_reducible refine (MI.out _ (HT.out.below (below_trans yb2 hb3))).mono ?_); rintro en w4 ⟨rfl, hb4⟩))
      refine bodyPost_ret (by simp [results, Tryd.results74, go_sem]; try rfl) rfl ?_
      exact ⟨rfl, below_trans (below_trans yb2 hb3) hb4⟩
end Go.Proofs.YteaakbeemhmciaaDoor
