/- NatSums: the law's walk, its first half. -/
import Derived.Test.YtdoiobdomngccaaNat13b
import Derived.Test.YtdoiobdomngccaaZ9
set_option linter.unusedVariables false
set_option linter.unusedSimpArgs false
namespace Go.Ulp
open Go.RowKit
/-- a slice of one list -/
def Fact.b1 (x : Value) : Fact := ⟨fun v w => ∃ g, v = .slice (some ⟨g, 0, none⟩) 1 1 ∧ w.cell? ⟨g, 0, none⟩ = some x, fun _ _ _ h hb => by
  obtain ⟨g, h1, h2⟩ := h
  exact ⟨g, h1, (hb.cell (World.block_lt_of_cell? _ _ h2)).trans h2⟩⟩
/-- a list of the number m -/
def Fact.nl (m : Nat) : Fact := ⟨fun v w => ∃ ao cap, v = .slice ao (limbs m).length cap ∧ Ns .u32 w ao cap (limbs m), fun _ _ _ h hb => by
  obtain ⟨ao, cap, h1, h2⟩ := h
  exact ⟨ao, cap, h1, h2.below hb⟩⟩
theorem wp_worldN {P : Program} {c : Code} {Q : Exit → Act → World → Prop} {a : Act} {w0 : World} (F : World → Prop) (hF : F w0) (h : ∀ w, F w → Code.wp P c Q a w) : Code.wp P c Q a w0 := h w0 hF
theorem bs1 (w : World) (x : Value) (t : TypeId) : (w.alloc (.cells #[x] t)).cell? ⟨w.heap.size, 0, none⟩ = some x := by rw [World.cell?_alloc_at (hn := rfl)]; rfl
end Go.Ulp
namespace Go.Proofs.Ytdoiobdomngccaa
open Go.RowKit Go.Ulp
set_option linter.unusedVariables false
set_option linter.unusedSimpArgs false
set_option maxHeartbeats 2000000
set_option maxRecDepth 100000
theorem natSums_walk (La : List Nat) (ao : Option Addr) (ca : Nat) (Lb : List Nat) (bo : Option Addr) (cb : Nat) (a2 : Int) (W : World) (hNa : Ns .u32 W ao ca La) (lLa : Lim La) (hNb : Ns .u32 W bo cb Lb) (lLb : Lim Lb) (hx : 0 ≤ a2 ∧ a2 ≤ 18446744073709551615) :
    Calls Try.prog 10 #[.slice ao La.length ca, .slice bo Lb.length cb, .int .u64 a2] W fun e w' => e = .returned (.bool true) ∧ Below W.heap.size W w' := by
  obtain ⟨X, rfl⟩ : ∃ X : Nat, a2 = (X : Int) := ⟨a2.toNat, by omega⟩
  have SC := hid (fun w h0 h1 => natCmp_says ao bo ca cb La Lb w lLa lLb h0 h1)
  have SA := hid (fun w h0 h1 => natAdd_says ao bo ca cb La Lb w lLa lLb h0 h1)
  have SS := hid (fun w h0 h1 => natSub_says ao bo ca cb La Lb w lLa lLb h0 h1)
  have SM := hid (fun w h0 h1 => natMul_says ao bo ca cb La Lb w lLa lLb h0 h1)
  have SD := hid (fun w h0 h1 => natDiv_says ao bo ca cb La Lb w lLa lLb h0 h1)
  have LR := hid (fun g w k0 k1 h0 h1 => limbsRight2_any g ao bo ca cb La Lb w k0 k1 h0 h1)
  have HA := hid hNa
  have HB := hid hNb
  have lA := hid lLa
  have lB := hid lLb
  clear hNa hNb lLa lLb
  go_enter Try.func10, Try.ntmps10
  go_upto_region 2 with (go_at_call 60; (with_reducible refine (SC.out _ HA.out HB.out).mono ?_); rintro e w1 ⟨v1, u1, rfl, yb1, p1, q1⟩)
  go_upto_region 3 with (go_at_call 61; (with_reducible refine (SA.out _ (HA.out.below yb1) (HB.out.below yb1)).mono ?_); rintro e w2 ⟨r2, n2, d2, u2, rfl, hb2, p2, q2⟩)
  have yb2 := below_trans yb1 hb2
  go_upto_region 4 with (go_at_call 62; (with_reducible refine (SS.out _ (HA.out.below yb2) (HB.out.below yb2)).mono ?_); rintro e w3 ⟨r3, n3, d3, u3, rfl, hb3, p3, q3⟩)
  have yb3 := below_trans yb2 hb3
  go_upto_region 5 with (go_at_call 63; (with_reducible refine (SM.out _ (HA.out.below yb3) (HB.out.below yb3)).mono ?_); rintro e w4 ⟨r4, n4, d4, u4, rfl, hb4, p4, q4⟩)
  have yb4 := below_trans yb3 hb4
  go_upto_region 6 with (go_at_call 64; (with_reducible refine (SD.out _ (HA.out.below yb4) (HB.out.below yb4)).mono ?_); rintro e w5 ⟨r5, n5, d5, r6, n6, d6, u5, rfl, hb5, p5, q5⟩)
  have yb5 := below_trans yb4 hb5
  have yb6 := below_trans yb5 (below_alloc w5 (.cells #[.slice ao La.length ca, .slice bo Lb.length cb] 80))
  go_upto_region 7 with (go_at_call 65; (with_reducible refine (LR.out _ _ (bs2 _ _ _ _).1 (bs2 _ _ _ _).2 (HA.out.below yb6) (HB.out.below yb6)).mono ?_); rintro e w6 ⟨rfl, rfl⟩)
  obtain ⟨xh, hxh⟩ : ∃ xh, xh = X / 4294967296 := ⟨_, rfl⟩
  obtain ⟨xl, hxl⟩ : ∃ xl, xl = X % 4294967296 := ⟨_, rfl⟩
  have exh : (X : Int) / 4294967296 = (xh : Int) := by omega
  have exl : (X : Int) % 4294967296 = (xl : Int) := by omega
  have bxh : xh < 4294967296 := by omega
  have bxl : xl < 4294967296 := by omega
  have HXX := hid (show (X : Int) = (xh : Int) * 4294967296 + (xl : Int) by omega)
  clear hxh hxl
  have ZN := hid (fun (n : Nat) (h : n < 9223372036854775808) w => zN_any n h w)
  go_upto_region 8 with (go_at_call 66; (first | ((with_reducible refine (ZN.out xh (by omega) _).mono ?_); rintro e w7 ⟨a7, c7, rfl, hN7, hb7⟩) | ((with_reducible refine (ZN.out xl (by omega) _).mono ?_); rintro e w8 ⟨a8, c8, rfl, hN8, hb8⟩)))
  have hzlen : ∀ z : Int, z.natAbs < 100000000000000000000 → (zl z).length ≤ 5 := fun z hz => by
    unfold zl
    exact (digs_len_le 10000 (by omega) z.natAbs 5).2 (by simpa using hz)
  have hXl : (limbs X).length ≤ 1000000 := by
    have : (limbs X).length ≤ 2 := (digs_len_le 4294967296 (by omega) X 2).2 (by omega)
    omega
  have NC := hid (fun w h => natCheck_any ao ca La w h)
  have LR1 := hid (fun g w k0 h0 => limbsRight1_any g ao ca La w k0 h0)
  have OF := hid (fun w => natOf_any X (by omega) w)
  have ZN4 : Hid (∀ w, Calls Try.prog 66 #[.int .i64 4294967296] w fun e w' => RetZ 3 w 4294967296 e w') := hid (fun w => zN_any 4294967296 (by omega) w)
  have ZM := hid (fun a1 c1 w h0 h1 => zmul_any a7 a1 c7 c1 (xh : Int) 4294967296 w h0 h1 (by have := hzlen xh (by omega); omega) (by have := hzlen 4294967296 (by decide); omega))
  have ZA := hid (fun a0 c0 w h0 h1 => by
    have := zadd_any a0 a8 c0 c8 ((xh : Int) * 4294967296) (xl : Int) w h0 h1 (by have := hzlen ((xh : Int) * 4294967296) (by omega); omega) (by have := hzlen xl (by omega); omega)
    rwa [← HXX.out] at this)
  have LB := hid (fun a0 a1 c0 c1 w h0 h1 => limbed_any a0 a1 c0 c1 X (X : Int) w h0 h1 rfl hXl)
  clear hzlen
  have yw8 := below_trans (below_trans yb6 hb7) hb8
  have hn7 := hN7.below hb8
  have yc5 := below_trans (below_trans (below_trans (below_trans (below_alloc w5 (.cells #[.slice ao La.length ca, .slice bo Lb.length cb] 80)) hb7) hb8) (below_alloc w8 (.cells #[.bool (zneg xh), .slice a7 (zl xh).length c7] 71))) (below_alloc _ (.cells #[.bool (zneg xl), .slice a8 (zl xl).length c8] 71))
  refine wp_worldN (fun WW => Below W.heap.size W WW ∧ ZL 71 WW w8.heap.size (zneg xh) (.slice a7 (zl xh).length c7) ∧ ZL 71 WW (w8.heap.size + 1) (zneg xl) (.slice a8 (zl xl).length c8) ∧ Nz 3 WW a7 c7 (zl xh) ∧ Nz 3 WW a8 c8 (zl xl) ∧ Below w2.heap.size w2 WW ∧ Below w3.heap.size w3 WW ∧ Below w4.heap.size w4 WW ∧ Below w5.heap.size w5 WW) ⟨below_trans (below_trans yw8 (below_alloc _ _)) (below_alloc _ _), (ZL.made rfl).alloc _, ZL.made (by simp), (hn7.below (below_alloc _ _)).below (below_alloc _ _), (hN8.below (below_alloc _ _)).below (below_alloc _ _), below_trans hb3 (below_trans hb4 (below_trans hb5 yc5)), below_trans hb4 (below_trans hb5 yc5), below_trans hb5 yc5, yc5⟩ ?_
  intro WW hWW
  obtain ⟨yW, z19, z20, hNh, hNl, y2W, y3W, y4W, y5W⟩ := hWW
  obtain ⟨g19, hg19⟩ : ∃ g, g = w8.heap.size := ⟨_, rfl⟩
  obtain ⟨g20, hg20⟩ : ∃ g, g = w8.heap.size + 1 := ⟨_, rfl⟩
  rw [← hg20] at z20
  rw [← hg19] at z19
  rw [← hg20, ← hg19]
  have q2' := fun h => (q2 h).2.2.below y2W
  have q3' := fun h => (q3 h).2.2.below y3W
  have q4' := fun h => (q4 h).2.2.below y4W
  have q5' := fun h => (q5 h).2.2.1.below y5W
  have q5'' := fun h => (q5 h).2.2.2.2.below y5W
  clear yc5 y2W y3W y4W y5W
  clear hg19 hg20 yb1 yb2 yb3 yb4 yb5 yb6 hb2 hb3 hb4 hb5 hb7 hb8 yw8 hn7 hN7 hN8 SC SA SS SM SD exh exl
  refine wp_region_grow 17 [68, 69, 70, 71, 72, 73, 74, 75, 76, 77, 78, 79, 80, 81, 82, 83, 84] [Fact.is (.slice ao La.length ca), Fact.is (.int .i64 (limbE La)), Fact.is (.slice ao La.length ca), Fact.b1 (.slice ao La.length ca), Fact.is (.int .i64 (limbE La)), Fact.is (.bool false), Fact.is (.bool false), Fact.is (.int .u64 (X : Int)), Fact.nl X, Fact.is (.agg #[.bool (zneg xh), .slice a7 (zl xh).length c7]), Fact.z 3 4294967296, Fact.z 3 (xh * 4294967296), Fact.is (.agg #[.bool (zneg xl), .slice a8 (zl xl).length c8]), Fact.z 3 X, Fact.is (.bool true), Fact.is (.bool false), Fact.is (.bool false)] (by kernel_rfl) (by kernel_rfl) ⟨?o0, ?o1, ?o2, ?o3, ?o4, ?o5, ?o6, ?o7, ?o8, ?o9, ?o10, ?o11, ?o12, ?o13, ?o14, ?o15, ?o16, trivial⟩ ?after
  case o0 => (refine StepOK.plain rfl ?_; intro ρ w1 R hρ hb hp hR; have e0 : ρ (.tmp 0) = .slice ao La.length ca := hρ.tmp 0 rfl; have hcon := hρ.con; have hfn := hρ.fn; clear hρ hp; unfold OpRun; go_simp; exact hR _ _ (Below.refl _ _) rfl)
  case o1 => (refine StepOK.plain rfl ?_; intro ρ w1 R hρ hb hp hR; have e68 : ρ (.tmp 68) = _ := hp 0 68 rfl rfl; have hcon := hρ.con; have hfn := hρ.fn; clear hρ hp; unfold OpRun; go_simp; (refine (NC.out _ (HA.out.below (below_trans yW hb))).mono ?_; rintro e wn ⟨rfl, rfl⟩; exact ⟨_, rfl, hR _ _ (Below.refl _ _) rfl⟩))
  case o2 => (refine StepOK.plain rfl ?_; intro ρ w1 R hρ hb hp hR; have e0 : ρ (.tmp 0) = .slice ao La.length ca := hρ.tmp 0 rfl; have hcon := hρ.con; have hfn := hρ.fn; clear hρ hp; unfold OpRun; go_simp; exact hR _ _ (Below.refl _ _) rfl)
  case o3 => (refine StepOK.plain rfl ?_; intro ρ w1 R hρ hb hp hR; have e70 : ρ (.tmp 70) = _ := hp 2 70 rfl rfl; have hcon := hρ.con; have hfn := hρ.fn; clear hρ hp; unfold OpRun; go_simp; exact hR _ _ (below_alloc _ _) ⟨_, rfl, bs1 _ _ _⟩)
  case o4 => (refine StepOK.plain rfl ?_; intro ρ w1 R hρ hb hp hR; have f71 := hp 3 71 rfl rfl; obtain ⟨g71, e71, k71⟩ := f71; have hcon := hρ.con; have hfn := hρ.fn; clear hρ hp; unfold OpRun; go_simp; (refine (LR1.out _ _ k71 (HA.out.below (below_trans yW hb))).mono ?_; rintro e wn ⟨rfl, rfl⟩; exact ⟨_, rfl, hR _ _ (Below.refl _ _) rfl⟩))
  case o5 => (refine StepOK.plain rfl ?_; intro ρ w1 R hρ hb hp hR; have e69 : ρ (.tmp 69) = _ := hp 1 69 rfl rfl; have e72 : ρ (.tmp 72) = _ := hp 4 72 rfl rfl; have hcon := hρ.con; have hfn := hρ.fn; clear hρ hp; unfold OpRun; go_simp; exact hR _ _ (Below.refl _ _) rfl)
  case o6 => (refine StepOK.plain rfl ?_; intro ρ w1 R hρ hb hp hR; have e73 : ρ (.tmp 73) = _ := hp 5 73 rfl rfl; have hcon := hρ.con; have hfn := hρ.fn; clear hρ hp; unfold OpRun; go_simp; exact hR _ _ (Below.refl _ _) rfl)
  case o7 => (intro ρ w1 R hρ hb hp hR; have eg : ρ (.tmp 74) = .bool false := hp 6 74 rfl rfl; refine ⟨fun _ => ?_, fun hg => absurd hg (by simp [guardOf, eg])⟩; clear eg; have e2 : ρ (.tmp 2) = .int .u64 (X : Int) := hρ.tmp 2 rfl; have hcon := hρ.con; have hfn := hρ.fn; clear hρ hp; unfold OpRun; go_simp; exact hR _ _ (Below.refl _ _) rfl)
  case o8 => (intro ρ w1 R hρ hb hp hR; have eg : ρ (.tmp 74) = .bool false := hp 6 74 rfl rfl; refine ⟨fun _ => ?_, fun hg => absurd hg (by simp [guardOf, eg])⟩; clear eg; have e75 : ρ (.tmp 75) = _ := hp 7 75 rfl rfl; have hcon := hρ.con; have hfn := hρ.fn; clear hρ hp; unfold OpRun; go_simp; (refine (OF.out _).mono ?_; rintro e wn ⟨a76, rfl, hn76, hbn⟩; exact ⟨_, rfl, hR _ _ hbn ⟨_, _, rfl, hn76⟩⟩))
  case o9 => (intro ρ w1 R hρ hb hp hR; have eg : ρ (.tmp 74) = .bool false := hp 6 74 rfl rfl; refine ⟨fun _ => ?_, fun hg => absurd hg (by simp [guardOf, eg])⟩; clear eg; have e19 : ρ (.tmp 19) = .pointer (some ⟨g19, 0, none⟩) := hρ.tmp 19 rfl; obtain ⟨j0, j1, -⟩ := z19.below hb; have hcon := hρ.con; have hfn := hρ.fn; clear hρ hp; unfold OpRun; go_simp; exact hR _ _ (Below.refl _ _) rfl)
  case o10 => (intro ρ w1 R hρ hb hp hR; have eg : ρ (.tmp 74) = .bool false := hp 6 74 rfl rfl; refine ⟨fun _ => ?_, fun hg => absurd hg (by simp [guardOf, eg])⟩; clear eg; skip; have hcon := hρ.con; have hfn := hρ.fn; clear hρ hp; unfold OpRun; go_simp; (refine (ZN4.out _).mono ?_; rintro e wn ⟨az, cz, rfl, hz9, hbn⟩; exact ⟨_, rfl, hR _ _ hbn ⟨az, cz, rfl, hz9⟩⟩))
  case o11 => (intro ρ w1 R hρ hb hp hR; have eg : ρ (.tmp 74) = .bool false := hp 6 74 rfl rfl; refine ⟨fun _ => ?_, fun hg => absurd hg (by simp [guardOf, eg])⟩; clear eg; have e77 : ρ (.tmp 77) = _ := hp 9 77 rfl rfl; have f78 := hp 10 78 rfl rfl; obtain ⟨ay, cy, e78, hz8⟩ := f78; have hcon := hρ.con; have hfn := hρ.fn; clear hρ hp; unfold OpRun; go_simp; (skip; refine (ZM.out _ _ _ (hNh.below hb) hz8).mono ?_; rintro e wn ⟨az, cz, rfl, hz9, hbn⟩; exact ⟨_, rfl, hR _ _ hbn ⟨az, cz, rfl, hz9⟩⟩))
  case o12 => (intro ρ w1 R hρ hb hp hR; have eg : ρ (.tmp 74) = .bool false := hp 6 74 rfl rfl; refine ⟨fun _ => ?_, fun hg => absurd hg (by simp [guardOf, eg])⟩; clear eg; have e20 : ρ (.tmp 20) = .pointer (some ⟨g20, 0, none⟩) := hρ.tmp 20 rfl; obtain ⟨j0, j1, -⟩ := z20.below hb; have hcon := hρ.con; have hfn := hρ.fn; clear hρ hp; unfold OpRun; go_simp; exact hR _ _ (Below.refl _ _) rfl)
  case o13 => (intro ρ w1 R hρ hb hp hR; have eg : ρ (.tmp 74) = .bool false := hp 6 74 rfl rfl; refine ⟨fun _ => ?_, fun hg => absurd hg (by simp [guardOf, eg])⟩; clear eg; have f79 := hp 11 79 rfl rfl; have e80 : ρ (.tmp 80) = _ := hp 12 80 rfl rfl; obtain ⟨ay, cy, e79, hz8⟩ := f79; have hcon := hρ.con; have hfn := hρ.fn; clear hρ hp; unfold OpRun; go_simp; (skip; refine (ZA.out _ _ _ hz8 (hNl.below hb)).mono ?_; rintro e wn ⟨az, cz, rfl, hz9, hbn⟩; exact ⟨_, rfl, hR _ _ hbn ⟨az, cz, rfl, hz9⟩⟩))
  case o14 => (intro ρ w1 R hρ hb hp hR; have eg : ρ (.tmp 74) = .bool false := hp 6 74 rfl rfl; refine ⟨fun _ => ?_, fun hg => absurd hg (by simp [guardOf, eg])⟩; clear eg; have f76 := hp 8 76 rfl rfl; have f81 := hp 13 81 rfl rfl; obtain ⟨ay, cy, e81, hz8⟩ := f81; obtain ⟨ax, cx, e76, hn8⟩ := f76; have hcon := hρ.con; have hfn := hρ.fn; clear hρ hp; unfold OpRun; go_simp; (refine (LB.out _ _ _ _ _ hn8 hz8).mono ?_; rintro e wn ⟨rfl, hbn⟩; exact ⟨_, rfl, hR _ _ hbn rfl⟩))
  case o15 => (intro ρ w1 R hρ hb hp hR; have eg : ρ (.tmp 74) = .bool false := hp 6 74 rfl rfl; refine ⟨fun _ => ?_, fun hg => absurd hg (by simp [guardOf, eg])⟩; clear eg; have e82 : ρ (.tmp 82) = _ := hp 14 82 rfl rfl; have hcon := hρ.con; have hfn := hρ.fn; clear hρ hp; unfold OpRun; go_simp; exact hR _ _ (Below.refl _ _) rfl)
  case o16 => (refine StepOK.plain rfl ?_; intro ρ w1 R hρ hb hp hR; have e74 : ρ (.tmp 74) = _ := hp 6 74 rfl rfl; have e83 : ρ (.tmp 83) = _ := hp 15 83 rfl rfl; have hcon := hρ.con; have hfn := hρ.fn; clear hρ hp; unfold OpRun; go_simp; exact hR _ _ (Below.refl _ _) rfl)
  case after =>
    intro u wn hb hf
    have e84 : u 84 = _ := hf 16 84 (by omega) rfl
    clear hf
    simp only [putAll, Act.put, List.setIfInBounds_toArray, List.set_cons_zero, List.set_cons_succ, List.drop_succ_cons, List.drop_zero, List.drop_nil]
    rw [e84]
    have yW2 := below_trans yW hb
    clear z19 z20 hNh hNl yW NC LR1 OF ZN4 ZM ZA
    go_upto_region 10 with fail
    have hWn := yW2
    by_cases ht : limbE2 La Lb = 0
    · obtain ⟨e1, e2⟩ := limbE2_zero ht
      obtain ⟨l1, t1⟩ := limbE_zero e1
      obtain ⟨l2, t2⟩ := limbE_zero e2
      have s1 := limbs_self lA.out t1
      have s2 := limbs_self lB.out t2
      obtain ⟨rfl, rfl⟩ := q1 ht
      obtain ⟨rfl, rfl, -⟩ := q2 ht
      obtain ⟨rfl, rfl, -⟩ := q4 ht
      have m2 := (q2' ht).below hb
      have m4 := (q4' ht).below hb
      rw [if_neg (fun h => h ht)] at p3 q3 p5 q5 q3' q5' q5''
      rw [ht]
      obtain ⟨A, hA⟩ : ∃ A, A = lval La := ⟨_, rfl⟩
      obtain ⟨B, hB⟩ : ∃ B, B = lval Lb := ⟨_, rfl⟩
      rw [← hA] at m2 m4 p3 q3 q5 q3' q5' q5'' s1 ⊢
      rw [← hB] at m2 m4 p3 q3 p5 q5 q3' q5' q5'' s2 ⊢
      clear e1 e2 t1 t2 p1 q1 p2 q2 p4 q4 q2' q4' LR lA lB ht hA hB LB
      subst s1 s2
      have ZLA := hid (fun w h => by have := zlimbs_any (limbs A) ao ca w (limbs_lim A) h (by omega); rwa [lval_limbs] at this)
      have ZLB := hid (fun w h => by have := zlimbs_any (limbs B) bo cb w (limbs_lim B) h (by omega); rwa [lval_limbs] at this)
      have LB := hid (fun a0 a1 c0 c1 m x w h0 h1 hx hm => limbed_any a0 a1 c0 c1 m x w h0 h1 hx hm)
      have P3 := hid p3
      have P5 := hid p5
      have Q3 := hid q3
      have Q5 := hid q5
      have Q3' := hid (fun h => (q3' h).below hb)
      have Q5' := hid (fun h => (q5' h).below hb)
      have Q5'' := hid (fun h => (q5'' h).below hb)
      have M2 := hid m2
      have M4 := hid m4
      have HA2 := hid (HA.out.below yW2)
      have HB2 := hid (HB.out.below yW2)
      clear p3 p5 q3 q5 q3' q5' q5'' m2 m4 HA HB hWn hb
      go_upto_region 13 with (go_at_call 72; (first | ((with_reducible refine (ZLA.out _ HA2.out).mono ?_); rintro e wa ⟨aA, cA, rfl, hNA, hbA⟩) | ((with_reducible refine (ZLB.out _ (HB2.out.below hbA)).mono ?_); rintro e wb ⟨aB, cB, rfl, hNB, hbB⟩)))
      have zA := zlen_of_limbs A 400 l1
      have zB := zlen_of_limbs B 400 l2
      have y2 := below_trans yW2 (below_trans hbA hbB)
      have yab := below_trans (below_trans (below_trans hbA hbB) (below_alloc wb (.cells #[.bool (zneg A), .slice aA (zl A).length cA] 71))) (below_alloc _ (.cells #[.bool (zneg B), .slice aB (zl B).length cB] 71))
      refine wp_worldN (fun WW => Below W.heap.size W WW ∧ ZL 71 WW wb.heap.size (zneg A) (.slice aA (zl A).length cA) ∧ ZL 71 WW (wb.heap.size + 1) (zneg B) (.slice aB (zl B).length cB) ∧ Nz 3 WW aA cA (zl A) ∧ Nz 3 WW aB cB (zl B) ∧ Below wn.heap.size wn WW) ⟨below_trans (below_trans y2 (below_alloc _ _)) (below_alloc _ _), (ZL.made rfl).alloc _, ZL.made (by simp), ((hNA.below hbB).below (below_alloc _ _)).below (below_alloc _ _), (hNB.below (below_alloc _ _)).below (below_alloc _ _), yab⟩ ?_
      intro WX hWX
      obtain ⟨yX, z21, z22, hNA', hNB', ynX⟩ := hWX
      obtain ⟨g21, hg21⟩ : ∃ g, g = wb.heap.size := ⟨_, rfl⟩
      obtain ⟨g22, hg22⟩ : ∃ g, g = wb.heap.size + 1 := ⟨_, rfl⟩
      rw [← hg22] at z22
      rw [← hg21] at z21
      rw [← hg22, ← hg21]
      clear hg21 hg22 yab y2 hbA hbB hNA hNB ZLA ZLB HA2 HB2
      have CP := hid (fun w h0 h1 => zcmp_any aA aB cA cB (A : Int) (B : Int) w h0 h1)
      have AD := hid (fun w h0 h1 => zadd_any aA aB cA cB (A : Int) (B : Int) w h0 h1 (by omega) (by omega))
      have MU := hid (fun w h0 h1 => zmul_any aA aB cA cB (A : Int) (B : Int) w h0 h1 (by omega) (by omega))
      have LBA := hid (fun a1 c1 w h0 h1 => LB.out r2 a1 d2 c1 (A + B) ((A : Int) + (B : Int)) w h0 h1 (Int.natCast_add A B).symm (by have := limbs_len_add A B 400 400 l1 l2; omega))
      have LBM := hid (fun a1 c1 w h0 h1 => LB.out r4 a1 d4 c1 (A * B) ((A : Int) * (B : Int)) w h0 h1 (Int.natCast_mul A B).symm (by have := limbs_len_mul A B 400 400 l1 l2; omega))
      have m2 := hid (M2.out.below ynX)
      have m4 := hid (M4.out.below ynX)
      have NA := hid hNA'
      have NB := hid hNB'
      have hcc : (cmpI (A : Int) (B : Int) == cmpI (A : Int) (B : Int)) = true := by simp
      obtain ⟨j0, j1, -⟩ := id z21
      obtain ⟨i0, i1, -⟩ := id z22
      obtain ⟨cm, hcm⟩ : ∃ cm, cm = cmpI (A : Int) (B : Int) := ⟨_, rfl⟩
      rw [← hcm] at CP ⊢
      clear hcc hNA' hNB'
      go_upto_if 175 with (first
        | (go_at_call 73; (with_reducible refine (CP.out _ NA.out NB.out).mono ?_); rintro e w11 ⟨rfl, x1⟩; obtain ⟨j10, j11, -⟩ := z21.below x1; obtain ⟨i10, i11, -⟩ := z22.below x1)
        | (go_at_call 70; (with_reducible refine (AD.out _ (NA.out.below x1) (NB.out.below x1)).mono ?_); rintro e w12 ⟨a12, c12, rfl, n12, x2⟩; have x3 := below_trans x1 x2)
        | (go_at_call 68; (with_reducible refine (LBA.out _ _ _ (m2.out.below x3) n12).mono ?_); rintro e w13 ⟨rfl, x4⟩; have x5 := below_trans x3 x4; obtain ⟨j20, j21, -⟩ := z21.below x5; obtain ⟨i20, i21, -⟩ := z22.below x5)
        | (go_at_call 71; (with_reducible refine (MU.out _ (NA.out.below x5) (NB.out.below x5)).mono ?_); rintro e w14 ⟨a14, c14, rfl, n14, x6⟩; have x7 := below_trans x5 x6)
        | (go_at_call 68; (with_reducible refine (LBM.out _ _ _ (m4.out.below x7) n14).mono ?_); rintro e w15 ⟨rfl, x8⟩; have x9 := below_trans x7 x8))
      have yY := below_trans yX x9
      have SU := hid (fun w h0 h1 => zsub_any aA aB cA cB (A : Int) (B : Int) w h0 h1 (by omega) (by omega))
      go_upto_if 177 with fail
      go_cut [] (fun wx => Below W.heap.size W wx ∧ Below WX.heap.size WX wx)
      case first => as_aux_lemma =>
        by_cases hAB : A < B
        · have hcn : cm < 0 := by rw [hcm]; unfold cmpI; rw [if_pos (by omega)]; decide
          obtain ⟨rfl, e3⟩ := P3.out (by rw [if_pos hAB]; decide)
          rw [if_pos hAB] at e3
          subst e3
          go_wp2_with fail
          go_meet
          exact ⟨yY, x9⟩
        · have hcn : ¬ cm < 0 := by rw [hcm]; unfold cmpI; split <;> (try split) <;> omega
          obtain ⟨rfl, rfl, -⟩ := Q3.out (by rw [if_neg hAB])
          have m3 := hid ((Q3'.out (by rw [if_neg hAB])).below ynX)
          have LBS := hid (fun a1 c1 w h0 h1 => LB.out r3 a1 d3 c1 (A - B) ((A : Int) - (B : Int)) w h0 h1 (by omega) (by have := limbs_len_mono (Nat.sub_le A B); omega))
          obtain ⟨k0, k1, -⟩ := z21.below x9
          obtain ⟨k2, k3, -⟩ := z22.below x9
          go_wp2_with (first
            | (go_at_call 74; (with_reducible refine (SU.out _ (NA.out.below x9) (NB.out.below x9)).mono ?_); rintro e w16 ⟨a16, c16, rfl, n16, x10⟩; have x11 := below_trans x9 x10)
            | (go_at_call 68; (with_reducible refine (LBS.out _ _ _ (m3.out.below x11) n16).mono ?_); rintro e w17 ⟨rfl, x12⟩; have x13 := below_trans x11 x12))
          go_meet
          exact ⟨below_trans yX x13, x13⟩
      case rest =>
        obtain ⟨yZ, xz⟩ := hcut
        by_cases hB0 : B = 0
        · as_aux_lemma =>
          subst hB0
          obtain ⟨rfl, rfl, e5⟩ := P5.out (by rw [if_pos rfl]; decide)
          rw [if_pos rfl] at e5
          subst e5
          rw [limbs_zero, List.length_nil]
          go_wp2_with fail
          go_ret
          exact ⟨rfl, yZ⟩
        · as_aux_lemma =>
          have hlp : 0 < (limbs B).length := (digs_len_pos 4294967296 (by omega) B).2 (by omega)
          have hlb : (((limbs B).length : Int) == 0) = false := beq_eq_false_iff_ne.2 (fun h => by omega)
          obtain ⟨rfl, rfl, -, rfl, -⟩ := Q5.out (by rw [if_neg hB0])
          have m5 := hid ((Q5'.out (by rw [if_neg hB0])).below (below_trans ynX xz))
          have m6 := hid ((Q5''.out (by rw [if_neg hB0])).below (below_trans ynX xz))
          have DI := hid (fun w h0 h1 => zdiv_any aA aB cA cB (A : Int) (B : Int) w h0 h1 (by omega) (by omega) (by omega))
          have LQ := hid (fun a1 c1 w h0 h1 => LB.out r5 a1 d5 c1 (A / B) ((A : Int) / (B : Int)) w h0 h1 (Int.natCast_ediv A B).symm (by have := limbs_len_mono (Nat.div_le_self A B); omega))
          have LD := hid (fun a1 c1 w h0 h1 => LB.out r6 a1 d6 c1 (A % B) ((A : Int) % (B : Int)) w h0 h1 (Int.natCast_emod A B).symm (by have := limbs_len_mono (Nat.mod_le A B); omega))
          obtain ⟨k0, k1, -⟩ := z21.below xz
          obtain ⟨k2, k3, -⟩ := z22.below xz
          obtain ⟨iq, hiq⟩ : ∃ iq, iq = (A : Int) / (B : Int) := ⟨_, rfl⟩
          obtain ⟨ir, hir⟩ : ∃ ir, ir = (A : Int) % (B : Int) := ⟨_, rfl⟩
          rw [← hiq, ← hir] at DI
          rw [← hiq] at LQ
          rw [← hir] at LD
          clear hiq hir
          go_upto_region 23 with (go_at_call 75; (with_reducible refine (DI.out _ (NA.out.below xz) (NB.out.below xz)).mono ?_); rintro e w18 ⟨aq, cq, ar, cr, rfl, nq, nr, x14⟩)
          have x15 := below_trans (below_trans x14 (below_alloc w18 (.cells #[.bool (zneg iq), .slice aq (zl iq).length cq] 71))) (below_alloc _ (.cells #[.bool (zneg ir), .slice ar (zl ir).length cr] 71))
          refine wp_worldN (fun WW => ZL 71 WW w18.heap.size (zneg iq) (.slice aq (zl iq).length cq) ∧ ZL 71 WW (w18.heap.size + 1) (zneg ir) (.slice ar (zl ir).length cr) ∧ Nz 3 WW aq cq (zl iq) ∧ Nz 3 WW ar cr (zl ir) ∧ Below wc.heap.size wc WW) ⟨(ZL.made rfl).alloc _, ZL.made (by simp), (nq.below (below_alloc _ _)).below (below_alloc _ _), (nr.below (below_alloc _ _)).below (below_alloc _ _), x15⟩ ?_
          intro WQ hWQ
          obtain ⟨z23, z24, nq', nr', x16⟩ := hWQ
          obtain ⟨q0, q1, -⟩ := id z23
          obtain ⟨q2, q3, -⟩ := id z24
          have NQ := hid nq'
          have NR := hid nr'
          have m5' := hid (m5.out.below x16)
          have m6' := hid (m6.out.below x16)
          clear nq nr nq' nr' x14 x15
          go_wp2_with (first
            | (go_at_call 68; (with_reducible refine (LQ.out _ _ _ m5'.out NQ.out).mono ?_); rintro e w19 ⟨rfl, x17⟩; obtain ⟨q4, q5, -⟩ := z24.below x17)
            | (go_at_call 68; (with_reducible refine (LD.out _ _ _ (m6'.out.below x17) (NR.out.below x17)).mono ?_); rintro e w20 ⟨rfl, x18⟩))
          go_ret
          exact ⟨rfl, below_trans yZ (below_trans x16 (below_trans x17 x18))⟩
    · obtain ⟨rfl, rfl⟩ := p1 ht
      obtain ⟨rfl, rfl⟩ := p2 ht
      obtain ⟨rfl, rfl⟩ := p4 ht
      rw [if_pos ht] at p3 p5
      obtain ⟨rfl, rfl⟩ := p3 ht
      obtain ⟨rfl, rfl, rfl⟩ := p5 ht
      have htb : (limbE2 La Lb == 0) = false := by simpa using ht
      clear p1 p2 p3 p4 p5 q1 q2 q3 q4 q5 q2' q3' q4' q5' q5''
      generalize limbE2 La Lb = t at *
      go_wp2_with fail
      go_ret
      exact ⟨rfl, yW2⟩
end Go.Proofs.Ytdoiobdomngccaa
