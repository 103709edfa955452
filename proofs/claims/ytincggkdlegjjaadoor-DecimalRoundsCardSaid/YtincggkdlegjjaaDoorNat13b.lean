/- How long numbers are. -/
import Derived.Test.YtincggkdlegjjaaDoorNat11
import Derived.Test.YtincggkdlegjjaaDoorNat7
import Derived.Test.YtincggkdlegjjaaDoorRegL
import Derived.Test.YtincggkdlegjjaaDoorQ1
set_option linter.unusedVariables false
set_option linter.unusedSimpArgs false
namespace Go.Ulp
open Go.RowKit
/-- an answer: t0 tells what is wrong; else the number n -/
def SaysN (t0 : Int) (n : Nat) (w : World) (e : Ending) (w' : World) : Prop :=
  ∃ ro rn rc t, e = .returned (.tuple #[.slice ro rn rc, .int .i64 t]) ∧ Below w.heap.size w w' ∧ (t0 ≠ 0 → rn = 0 ∧ t = t0) ∧ (t0 = 0 → t = 0 ∧ rn = (limbs n).length ∧ Ns .u32 w' ro rc (limbs n))
def SaysN2 (t0 : Int) (q r : Nat) (w : World) (e : Ending) (w' : World) : Prop :=
  ∃ ro rn rc so sn sc t, e = .returned (.tuple #[.slice ro rn rc, .slice so sn sc, .int .i64 t]) ∧ Below w.heap.size w w' ∧ (t0 ≠ 0 → rn = 0 ∧ sn = 0 ∧ t = t0) ∧ (t0 = 0 → t = 0 ∧ rn = (limbs q).length ∧ Ns .u32 w' ro rc (limbs q) ∧ sn = (limbs r).length ∧ Ns .u32 w' so sc (limbs r))
def SaysI (t0 : Int) (n : Int) (w : World) (e : Ending) (w' : World) : Prop :=
  ∃ v t, e = .returned (.tuple #[.int .i64 v, .int .i64 t]) ∧ Below w.heap.size w w' ∧ (t0 ≠ 0 → v = 0 ∧ t = t0) ∧ (t0 = 0 → t = 0 ∧ v = n)
theorem bs2 (w : World) (x y : Value) (t : TypeId) : (w.alloc (.cells #[x, y] t)).cell? ⟨w.heap.size, 0, none⟩ = some x ∧ (w.alloc (.cells #[x, y] t)).cell? ⟨w.heap.size, 1, none⟩ = some y := by
  refine ⟨?_, ?_⟩ <;> (rw [World.cell?_alloc_at (hn := rfl)]; rfl)
end Go.Ulp
namespace Go.Proofs.YtincggkdlegjjaaDoor
open Go.RowKit Go.Ulp
set_option linter.unusedVariables false
set_option linter.unusedSimpArgs false
set_option maxHeartbeats 1000000
set_option maxRecDepth 100000
end Go.Proofs.YtincggkdlegjjaaDoor
set_option linter.unusedVariables false
set_option linter.unusedSimpArgs false
namespace Go.Proofs.YtincggkdlegjjaaDoor
open Go.RowKit Go.Ulp
set_option linter.unusedVariables false
set_option linter.unusedSimpArgs false
set_option maxHeartbeats 1000000
set_option maxRecDepth 100000
theorem limbed_any (a0 a1 : Option Addr) (c0 c1 m : Nat) (x : Int) (w : World) (h0 : Ns .u32 w a0 c0 (limbs m)) (h1 : Nz 3 w a1 c1 (zl x)) (hx : x = (m : Int)) (hm : (limbs m).length ≤ 1000000) :
    Calls Tryd.prog 47 #[.slice a0 (limbs m).length c0, .agg #[.bool (zneg x), .slice a1 (zl x).length c1]] w fun e w' => e = .returned (.bool true) ∧ Below w.heap.size w w' := by
  subst hx
  have ZC := hid (fun w h => by have := zlimbs_any (limbs m) a0 c0 w (limbs_lim m) h hm; rwa [lval_limbs] at this)
  have CM := hid (fun a0 c0 w h0 h1 => by have := zcmp_any a0 a1 c0 c1 (m : Int) (m : Int) w h0 h1; rwa [show cmpI (m : Int) (m : Int) = 0 by unfold cmpI; rw [if_neg (by omega), if_neg (by omega)]] at this)
  have hz : ZL 42 (w.alloc (.cells #[.bool (zneg m), .slice a1 (zl m).length c1] 42)) w.heap.size (zneg m) (.slice a1 (zl m).length c1) := ZL.made rfl
  have hb0 := below_alloc w (.cells #[.bool (zneg m), .slice a1 (zl m).length c1] 42)
  have H0 := hid (h0.below hb0)
  have H1 := hid (h1.below hb0)
  have hcap := h0.1
  have hcap2 := h0.2.1
  unfold maxLen at hcap2
  by_cases hp : (limbs m).length = 0
  · rw [hp] at ZC ⊢
    clear h0 h1 hcap hcap2
    go_enter Tryd.func47, Tryd.ntmps47
    go_wp2_with fail
    refine wp_region_grow 20 [5, 6, 7, 8, 9, 10, 11, 12, 13, 14, 15, 16, 17, 18, 19, 20, 21, 22, 23, 4] [Fact.is (.slice a0 0 c0), Fact.is (.int .i64 0), Fact.is (.bool true), Fact.is (.bool true), Fact.any, Fact.any, Fact.any, Fact.any, Fact.any, Fact.any, Fact.any, Fact.is (.bool true), Fact.is (.bool true), Fact.is (.slice a0 0 c0), Fact.z 3 m, Fact.is (.agg #[.bool (zneg m), .slice a1 (zl m).length c1]), Fact.is (.int .i64 0), Fact.is (.bool true), Fact.is (.bool true), Fact.is (.bool true)] (by kernel_rfl) (by kernel_rfl) ⟨?o0, ?o1, ?o2, ?o3, ?o4, ?o5, ?o6, ?o7, ?o8, ?o9, ?o10, ?o11, ?o12, ?o13, ?o14, ?o15, ?o16, ?o17, ?o18, ?o19, trivial⟩ ?after
    case o0 => (refine StepOK.plain rfl ?_; intro ρ w1 R hρ hb hp hR; have e0 : ρ (.tmp 0) = .slice a0 0 c0 := hρ.tmp 0 rfl; have hcon := hρ.con; have hfn := hρ.fn; clear hρ hp; unfold OpRun; go_simp; exact hR _ _ (Below.refl _ _) rfl)
    case o1 => (refine StepOK.plain rfl ?_; intro ρ w1 R hρ hb hp hR; have e5 : ρ (.tmp 5) = _ := hp 0 5 rfl rfl; have hcon := hρ.con; have hfn := hρ.fn; clear hρ hp; unfold OpRun; go_simp; exact hR _ _ (Below.refl _ _) rfl)
    case o2 => (refine StepOK.plain rfl ?_; intro ρ w1 R hρ hb hp hR; have e6 : ρ (.tmp 6) = _ := hp 1 6 rfl rfl; have hcon := hρ.con; have hfn := hρ.fn; clear hρ hp; unfold OpRun; go_simp; exact hR _ _ (Below.refl _ _) rfl)
    case o3 => (refine StepOK.plain rfl ?_; intro ρ w1 R hρ hb hp hR; have e7 : ρ (.tmp 7) = _ := hp 2 7 rfl rfl; have hcon := hρ.con; have hfn := hρ.fn; clear hρ hp; unfold OpRun; go_simp; exact hR _ _ (Below.refl _ _) rfl)
    case o4 => (intro ρ w1 R hρ hb hp hR; have eg : ρ (.tmp 8) = .bool true := hp 3 8 rfl rfl; exact ⟨fun hg => absurd hg (by simp [guardOf, eg]), fun _ => trivial⟩)
    case o5 => (intro ρ w1 R hρ hb hp hR; have eg : ρ (.tmp 8) = .bool true := hp 3 8 rfl rfl; exact ⟨fun hg => absurd hg (by simp [guardOf, eg]), fun _ => trivial⟩)
    case o6 => (intro ρ w1 R hρ hb hp hR; have eg : ρ (.tmp 8) = .bool true := hp 3 8 rfl rfl; exact ⟨fun hg => absurd hg (by simp [guardOf, eg]), fun _ => trivial⟩)
    case o7 => (intro ρ w1 R hρ hb hp hR; have eg : ρ (.tmp 8) = .bool true := hp 3 8 rfl rfl; exact ⟨fun hg => absurd hg (by simp [guardOf, eg]), fun _ => trivial⟩)
    case o8 => (intro ρ w1 R hρ hb hp hR; have eg : ρ (.tmp 8) = .bool true := hp 3 8 rfl rfl; exact ⟨fun hg => absurd hg (by simp [guardOf, eg]), fun _ => trivial⟩)
    case o9 => (intro ρ w1 R hρ hb hp hR; have eg : ρ (.tmp 8) = .bool true := hp 3 8 rfl rfl; exact ⟨fun hg => absurd hg (by simp [guardOf, eg]), fun _ => trivial⟩)
    case o10 => (intro ρ w1 R hρ hb hp hR; have eg : ρ (.tmp 8) = .bool true := hp 3 8 rfl rfl; exact ⟨fun hg => absurd hg (by simp [guardOf, eg]), fun _ => trivial⟩)
    case o11 => (refine StepOK.plain rfl ?_; intro ρ w1 R hρ hb hp hR; have e8 : ρ (.tmp 8) = _ := hp 3 8 rfl rfl; have f15 := hp 10 15 rfl rfl; have hcon := hρ.con; have hfn := hρ.fn; clear hρ hp; unfold OpRun; go_simp; exact hR _ _ (Below.refl _ _) rfl)
    case o12 => (refine StepOK.plain rfl ?_; intro ρ w1 R hρ hb hp hR; have e16 : ρ (.tmp 16) = _ := hp 11 16 rfl rfl; have hcon := hρ.con; have hfn := hρ.fn; clear hρ hp; unfold OpRun; go_simp; exact hR _ _ (Below.refl _ _) rfl)
    case o13 => (intro ρ w1 R hρ hb hp hR; have eg : ρ (.tmp 17) = .bool true := hp 12 17 rfl rfl; refine ⟨fun _ => ?_, fun hg => absurd hg (by simp [guardOf, eg])⟩; clear eg; have e0 : ρ (.tmp 0) = .slice a0 0 c0 := hρ.tmp 0 rfl; have hcon := hρ.con; have hfn := hρ.fn; clear hρ hp; unfold OpRun; go_simp; exact hR _ _ (Below.refl _ _) rfl)
    case o14 => (intro ρ w1 R hρ hb hp hR; have eg : ρ (.tmp 17) = .bool true := hp 12 17 rfl rfl; refine ⟨fun _ => ?_, fun hg => absurd hg (by simp [guardOf, eg])⟩; clear eg; have e18 : ρ (.tmp 18) = _ := hp 13 18 rfl rfl; have hcon := hρ.con; have hfn := hρ.fn; clear hρ hp; unfold OpRun; go_simp; (refine (ZC.out _ (H0.out.below hb)).mono ?_; rintro e wn ⟨az, cz, rfl, hz9, hbn⟩; exact ⟨_, rfl, hR _ _ hbn ⟨az, cz, rfl, hz9⟩⟩))
    case o15 => (intro ρ w1 R hρ hb hp hR; have eg : ρ (.tmp 17) = .bool true := hp 12 17 rfl rfl; refine ⟨fun _ => ?_, fun hg => absurd hg (by simp [guardOf, eg])⟩; clear eg; have e3 : ρ (.tmp 3) = .pointer (some ⟨w.heap.size, 0, none⟩) := hρ.tmp 3 rfl; obtain ⟨j0, j1, -⟩ := hz.below hb; have hcon := hρ.con; have hfn := hρ.fn; clear hρ hp; unfold OpRun; go_simp; exact hR _ _ (Below.refl _ _) rfl)
    case o16 => (intro ρ w1 R hρ hb hp hR; have eg : ρ (.tmp 17) = .bool true := hp 12 17 rfl rfl; refine ⟨fun _ => ?_, fun hg => absurd hg (by simp [guardOf, eg])⟩; clear eg; have f19 := hp 14 19 rfl rfl; have e20 : ρ (.tmp 20) = _ := hp 15 20 rfl rfl; obtain ⟨az, cz, e19, hz8⟩ := f19; have hcon := hρ.con; have hfn := hρ.fn; clear hρ hp; unfold OpRun; go_simp; (refine (CM.out _ _ _ hz8 (H1.out.below hb)).mono ?_; rintro e wn ⟨rfl, hbn⟩; exact ⟨_, rfl, hR _ _ hbn rfl⟩))
    case o17 => (intro ρ w1 R hρ hb hp hR; have eg : ρ (.tmp 17) = .bool true := hp 12 17 rfl rfl; refine ⟨fun _ => ?_, fun hg => absurd hg (by simp [guardOf, eg])⟩; clear eg; have e21 : ρ (.tmp 21) = _ := hp 16 21 rfl rfl; have hcon := hρ.con; have hfn := hρ.fn; clear hρ hp; unfold OpRun; go_simp; exact hR _ _ (Below.refl _ _) rfl)
    case o18 => (refine StepOK.plain rfl ?_; intro ρ w1 R hρ hb hp hR; have e17 : ρ (.tmp 17) = _ := hp 12 17 rfl rfl; have e22 : ρ (.tmp 22) = _ := hp 17 22 rfl rfl; have hcon := hρ.con; have hfn := hρ.fn; clear hρ hp; unfold OpRun; go_simp; exact hR _ _ (Below.refl _ _) rfl)
    case o19 => (refine StepOK.plain rfl ?_; intro ρ w1 R hρ hb hp hR; have e23 : ρ (.tmp 23) = _ := hp 18 23 rfl rfl; have hcon := hρ.con; have hfn := hρ.fn; clear hρ hp; unfold OpRun; go_simp; exact hR _ _ (Below.refl _ _) rfl)
    case after =>
      intro u wn hb hf
      have e4 : u 4 = _ := hf 19 4 (by omega) rfl
      clear hf
      simp only [putAll, Act.put, List.setIfInBounds_toArray, List.set_cons_zero, List.set_cons_succ, List.drop_succ_cons, List.drop_zero, List.drop_nil]
      rw [e4]
      go_wp2_with fail
      go_ret
      exact ⟨rfl, hb0.trans (hb.mono hb0.size)⟩
  · obtain ⟨b, off, rfl, hc⟩ := h0.2.2 (by omega)
    have hc := hc ((limbs m).length - 1) (by omega)
    unfold lb at hc
    have ht := (trim_iff (limbs m)).1 (limbs_trim m)
    obtain ⟨d, hd⟩ : ∃ d, d = (limbs m).getD ((limbs m).length - 1) 0 := ⟨_, rfl⟩
    rw [← hd] at hc ht
    have hdb : ((d : Int) == 0) = false := by
      rcases ht with h | h
      · exact absurd h hp
      · exact beq_eq_false_iff_ne.2 (fun h2 => h (by omega))
    have hc1 := (hb0.cell (World.block_lt_of_cell? w _ hc)).trans hc
    clear hd ht h0 h1 hc
    obtain ⟨n, hn⟩ : ∃ n, n = (limbs m).length := ⟨_, rfl⟩
    rw [← hn] at ZC hp hc1 hcap hm ⊢
    have hcast : ((n : Int) - 1).toNat = n - 1 := by omega
    have hlen0 : ((n : Int) == 0) = false := beq_eq_false_iff_ne.2 (fun h2 => hp (by omega))
    have HC1 := hid hc1
    have hwr : IntKind.i64.wrap ((n : Int) - 1) = (n : Int) - 1 := by rw [IntWalk.i64_in _ (by omega)]
    have x1 : 1 ≤ (n : Int) := by omega
    have x2 : (n : Int) - 1 < (n : Int) := by omega
    have hdn : ((d : Int) != 0) = true := by simp [bne, hdb]
    clear hn hc1
    go_enter Tryd.func47, Tryd.ntmps47
    go_wp2_with fail
    refine wp_region_grow 20 [5, 6, 7, 8, 9, 10, 11, 12, 13, 14, 15, 16, 17, 18, 19, 20, 21, 22, 23, 4] [Fact.is (.slice (some ⟨b, off, none⟩) n c0), Fact.is (.int .i64 (n : Int)), Fact.is (.bool false), Fact.is (.bool false), Fact.is (.slice (some ⟨b, off, none⟩) n c0), Fact.is (.slice (some ⟨b, off, none⟩) n c0), Fact.is (.int .i64 (n : Int)), Fact.is (.int .i64 ((n : Int) - 1)), Fact.is (.pointer (some ⟨b, off + (n - 1), none⟩)), Fact.is (.int .u32 (d : Int)), Fact.is (.bool true), Fact.is (.bool true), Fact.is (.bool true), Fact.is (.slice (some ⟨b, off, none⟩) n c0), Fact.z 3 m, Fact.is (.agg #[.bool (zneg m), .slice a1 (zl m).length c1]), Fact.is (.int .i64 0), Fact.is (.bool true), Fact.is (.bool true), Fact.is (.bool true)] (by kernel_rfl) (by kernel_rfl) ⟨?o0, ?o1, ?o2, ?o3, ?o4, ?o5, ?o6, ?o7, ?o8, ?o9, ?o10, ?o11, ?o12, ?o13, ?o14, ?o15, ?o16, ?o17, ?o18, ?o19, trivial⟩ ?after
    case o0 => (refine StepOK.plain rfl ?_; intro ρ w1 R hρ hb hp hR; have e0 : ρ (.tmp 0) = .slice (some ⟨b, off, none⟩) n c0 := hρ.tmp 0 rfl; have hcon := hρ.con; have hfn := hρ.fn; clear hρ hp; unfold OpRun; go_simp; exact hR _ _ (Below.refl _ _) rfl)
    case o1 => (refine StepOK.plain rfl ?_; intro ρ w1 R hρ hb hp hR; have e5 : ρ (.tmp 5) = _ := hp 0 5 rfl rfl; have hcon := hρ.con; have hfn := hρ.fn; clear hρ hp; unfold OpRun; go_simp; exact hR _ _ (Below.refl _ _) rfl)
    case o2 => (refine StepOK.plain rfl ?_; intro ρ w1 R hρ hb hp hR; have e6 : ρ (.tmp 6) = _ := hp 1 6 rfl rfl; have hcon := hρ.con; have hfn := hρ.fn; clear hρ hp; unfold OpRun; go_simp; exact hR _ _ (Below.refl _ _) rfl)
    case o3 => (refine StepOK.plain rfl ?_; intro ρ w1 R hρ hb hp hR; have e7 : ρ (.tmp 7) = _ := hp 2 7 rfl rfl; have hcon := hρ.con; have hfn := hρ.fn; clear hρ hp; unfold OpRun; go_simp; exact hR _ _ (Below.refl _ _) rfl)
    case o4 => (intro ρ w1 R hρ hb hp hR; have eg : ρ (.tmp 8) = .bool false := hp 3 8 rfl rfl; refine ⟨fun _ => ?_, fun hg => absurd hg (by simp [guardOf, eg])⟩; clear eg; have e0 : ρ (.tmp 0) = .slice (some ⟨b, off, none⟩) n c0 := hρ.tmp 0 rfl; have hcon := hρ.con; have hfn := hρ.fn; clear hρ hp; unfold OpRun; go_simp; exact hR _ _ (Below.refl _ _) rfl)
    case o5 => (intro ρ w1 R hρ hb hp hR; have eg : ρ (.tmp 8) = .bool false := hp 3 8 rfl rfl; refine ⟨fun _ => ?_, fun hg => absurd hg (by simp [guardOf, eg])⟩; clear eg; have e0 : ρ (.tmp 0) = .slice (some ⟨b, off, none⟩) n c0 := hρ.tmp 0 rfl; have hcon := hρ.con; have hfn := hρ.fn; clear hρ hp; unfold OpRun; go_simp; exact hR _ _ (Below.refl _ _) rfl)
    case o6 => (intro ρ w1 R hρ hb hp hR; have eg : ρ (.tmp 8) = .bool false := hp 3 8 rfl rfl; refine ⟨fun _ => ?_, fun hg => absurd hg (by simp [guardOf, eg])⟩; clear eg; have e10 : ρ (.tmp 10) = _ := hp 5 10 rfl rfl; have hcon := hρ.con; have hfn := hρ.fn; clear hρ hp; unfold OpRun; go_simp; exact hR _ _ (Below.refl _ _) rfl)
    case o7 => (intro ρ w1 R hρ hb hp hR; have eg : ρ (.tmp 8) = .bool false := hp 3 8 rfl rfl; refine ⟨fun _ => ?_, fun hg => absurd hg (by simp [guardOf, eg])⟩; clear eg; have e11 : ρ (.tmp 11) = _ := hp 6 11 rfl rfl; have hcon := hρ.con; have hfn := hρ.fn; clear hρ hp; unfold OpRun; go_simp; exact hR _ _ (Below.refl _ _) rfl)
    case o8 => (intro ρ w1 R hρ hb hp hR; have eg : ρ (.tmp 8) = .bool false := hp 3 8 rfl rfl; refine ⟨fun _ => ?_, fun hg => absurd hg (by simp [guardOf, eg])⟩; clear eg; have e9 : ρ (.tmp 9) = _ := hp 4 9 rfl rfl; have e12 : ρ (.tmp 12) = _ := hp 7 12 rfl rfl; have hcon := hρ.con; have hfn := hρ.fn; clear hρ hp; unfold OpRun; go_simp; exact hR _ _ (Below.refl _ _) rfl)
    case o9 => (intro ρ w1 R hρ hb hp hR; have eg : ρ (.tmp 8) = .bool false := hp 3 8 rfl rfl; refine ⟨fun _ => ?_, fun hg => absurd hg (by simp [guardOf, eg])⟩; clear eg; have e13 : ρ (.tmp 13) = _ := hp 8 13 rfl rfl; have j0 := (hb.cell (World.block_lt_of_cell? _ _ HC1.out)).trans HC1.out; have hcon := hρ.con; have hfn := hρ.fn; clear hρ hp; unfold OpRun; go_simp; exact hR _ _ (Below.refl _ _) rfl)
    case o10 => (intro ρ w1 R hρ hb hp hR; have eg : ρ (.tmp 8) = .bool false := hp 3 8 rfl rfl; refine ⟨fun _ => ?_, fun hg => absurd hg (by simp [guardOf, eg])⟩; clear eg; have e14 : ρ (.tmp 14) = _ := hp 9 14 rfl rfl; have hcon := hρ.con; have hfn := hρ.fn; clear hρ hp; unfold OpRun; go_simp; exact hR _ _ (Below.refl _ _) rfl)
    case o11 => (refine StepOK.plain rfl ?_; intro ρ w1 R hρ hb hp hR; have e8 : ρ (.tmp 8) = _ := hp 3 8 rfl rfl; have e15 : ρ (.tmp 15) = _ := hp 10 15 rfl rfl; have hcon := hρ.con; have hfn := hρ.fn; clear hρ hp; unfold OpRun; go_simp; exact hR _ _ (Below.refl _ _) rfl)
    case o12 => (refine StepOK.plain rfl ?_; intro ρ w1 R hρ hb hp hR; have e16 : ρ (.tmp 16) = _ := hp 11 16 rfl rfl; have hcon := hρ.con; have hfn := hρ.fn; clear hρ hp; unfold OpRun; go_simp; exact hR _ _ (Below.refl _ _) rfl)
    case o13 => (intro ρ w1 R hρ hb hp hR; have eg : ρ (.tmp 17) = .bool true := hp 12 17 rfl rfl; refine ⟨fun _ => ?_, fun hg => absurd hg (by simp [guardOf, eg])⟩; clear eg; have e0 : ρ (.tmp 0) = .slice (some ⟨b, off, none⟩) n c0 := hρ.tmp 0 rfl; have hcon := hρ.con; have hfn := hρ.fn; clear hρ hp; unfold OpRun; go_simp; exact hR _ _ (Below.refl _ _) rfl)
    case o14 => (intro ρ w1 R hρ hb hp hR; have eg : ρ (.tmp 17) = .bool true := hp 12 17 rfl rfl; refine ⟨fun _ => ?_, fun hg => absurd hg (by simp [guardOf, eg])⟩; clear eg; have e18 : ρ (.tmp 18) = _ := hp 13 18 rfl rfl; have hcon := hρ.con; have hfn := hρ.fn; clear hρ hp; unfold OpRun; go_simp; (refine (ZC.out _ (H0.out.below hb)).mono ?_; rintro e wn ⟨az, cz, rfl, hz9, hbn⟩; exact ⟨_, rfl, hR _ _ hbn ⟨az, cz, rfl, hz9⟩⟩))
    case o15 => (intro ρ w1 R hρ hb hp hR; have eg : ρ (.tmp 17) = .bool true := hp 12 17 rfl rfl; refine ⟨fun _ => ?_, fun hg => absurd hg (by simp [guardOf, eg])⟩; clear eg; have e3 : ρ (.tmp 3) = .pointer (some ⟨w.heap.size, 0, none⟩) := hρ.tmp 3 rfl; obtain ⟨j0, j1, -⟩ := hz.below hb; have hcon := hρ.con; have hfn := hρ.fn; clear hρ hp; unfold OpRun; go_simp; exact hR _ _ (Below.refl _ _) rfl)
    case o16 => (intro ρ w1 R hρ hb hp hR; have eg : ρ (.tmp 17) = .bool true := hp 12 17 rfl rfl; refine ⟨fun _ => ?_, fun hg => absurd hg (by simp [guardOf, eg])⟩; clear eg; have f19 := hp 14 19 rfl rfl; have e20 : ρ (.tmp 20) = _ := hp 15 20 rfl rfl; obtain ⟨az, cz, e19, hz8⟩ := f19; have hcon := hρ.con; have hfn := hρ.fn; clear hρ hp; unfold OpRun; go_simp; (refine (CM.out _ _ _ hz8 (H1.out.below hb)).mono ?_; rintro e wn ⟨rfl, hbn⟩; exact ⟨_, rfl, hR _ _ hbn rfl⟩))
    case o17 => (intro ρ w1 R hρ hb hp hR; have eg : ρ (.tmp 17) = .bool true := hp 12 17 rfl rfl; refine ⟨fun _ => ?_, fun hg => absurd hg (by simp [guardOf, eg])⟩; clear eg; have e21 : ρ (.tmp 21) = _ := hp 16 21 rfl rfl; have hcon := hρ.con; have hfn := hρ.fn; clear hρ hp; unfold OpRun; go_simp; exact hR _ _ (Below.refl _ _) rfl)
    case o18 => (refine StepOK.plain rfl ?_; intro ρ w1 R hρ hb hp hR; have e17 : ρ (.tmp 17) = _ := hp 12 17 rfl rfl; have e22 : ρ (.tmp 22) = _ := hp 17 22 rfl rfl; have hcon := hρ.con; have hfn := hρ.fn; clear hρ hp; unfold OpRun; go_simp; exact hR _ _ (Below.refl _ _) rfl)
    case o19 => (refine StepOK.plain rfl ?_; intro ρ w1 R hρ hb hp hR; have e23 : ρ (.tmp 23) = _ := hp 18 23 rfl rfl; have hcon := hρ.con; have hfn := hρ.fn; clear hρ hp; unfold OpRun; go_simp; exact hR _ _ (Below.refl _ _) rfl)
    case after =>
      intro u wn hb hf
      have e4 : u 4 = _ := hf 19 4 (by omega) rfl
      clear hf
      simp only [putAll, Act.put, List.setIfInBounds_toArray, List.set_cons_zero, List.set_cons_succ, List.drop_succ_cons, List.drop_zero, List.drop_nil]
      rw [e4]
      go_wp2_with fail
      go_ret
      exact ⟨rfl, hb0.trans (hb.mono hb0.size)⟩
end Go.Proofs.YtincggkdlegjjaaDoor
set_option linter.unusedVariables false
set_option linter.unusedSimpArgs false
namespace Go.Ulp
open Go.RowKit
theorem limbs_len_iff (n k : Nat) : (limbs n).length ≤ k ↔ n < 4294967296 ^ k := digs_len_le 4294967296 (by omega) n k
theorem zlen_of_limbs (n k : Nat) (h : (limbs n).length ≤ k) : (zl (n : Int)).length ≤ 3 * k := by
  have h1 := (limbs_len_iff n k).1 h
  unfold zl decs
  refine (digs_len_le 10000 (by omega) _ (3 * k)).2 ?_
  rw [Int.natAbs_natCast, Nat.pow_mul]
  exact Nat.lt_of_lt_of_le h1 (Nat.pow_le_pow_left (by decide) k)
theorem limbs_len_add (m n a b : Nat) (h1 : (limbs m).length ≤ a) (h2 : (limbs n).length ≤ b) : (limbs (m + n)).length ≤ a + b + 1 := by
  have e1 := (limbs_len_iff m a).1 h1
  have e2 := (limbs_len_iff n b).1 h2
  refine (limbs_len_iff _ _).2 ?_
  have p1 : 4294967296 ^ a ≤ 4294967296 ^ (a + b) := Nat.pow_le_pow_right (by omega) (by omega)
  have p2 : 4294967296 ^ b ≤ 4294967296 ^ (a + b) := Nat.pow_le_pow_right (by omega) (by omega)
  rw [Nat.pow_succ]; omega
theorem limbs_len_mul (m n a b : Nat) (h1 : (limbs m).length ≤ a) (h2 : (limbs n).length ≤ b) : (limbs (m * n)).length ≤ a + b := by
  have e1 := (limbs_len_iff m a).1 h1
  have e2 := (limbs_len_iff n b).1 h2
  refine (limbs_len_iff _ _).2 ?_
  rw [Nat.pow_add]
  exact Nat.mul_lt_mul'' e1 e2
theorem limbs_len_mono {m n : Nat} (h : m ≤ n) : (limbs m).length ≤ (limbs n).length := digs_len_mono 4294967296 (by omega) h
theorem limbs_len_shl (m k j : Nat) (h : k < 32 * (j + 1)) : (limbs (m * 2 ^ k)).length ≤ (limbs m).length + (j + 1) := by
  refine limbs_len_mul m (2 ^ k) _ _ (Nat.le_refl _) ((digs_len_le 4294967296 (by omega) _ _).2 ?_)
  rw [show (4294967296 : Nat) = 2 ^ 32 by decide, ← Nat.pow_mul]
  exact Nat.pow_lt_pow_right (by omega) h
end Go.Ulp
