/- TopRoot: what the proof leans on, part 20 (Tx10 Sy3 ShelfU Sy4). -/
import Derived.Shelf.Strings.Builder1
import Derived.Shelf.Strings.Builder2
import Derived.Shelf.Strings.OnBuilder
import Derived.Shelf.Strings.Trim
import Derived.Shelf.Small.Utf8
import Derived.Shelf.Small.Bits
import Derived.Shelf.Small.Strs
import Derived.Shelf.Small.Wraps
import Derived.Shelf.Strings.BuilderF
import Derived.Shelf.Strconv.Atoi
import Derived.Shelf.Strconv.Itoa0
import Derived.Shelf.Strconv.Itoa1
import Derived.Shelf.LaysM
import Derived.Shelf.Strconv.Itoa2
import Derived.Shelf.Strconv.Itoa3
import Derived.Ground.MpProg
import Derived.Shelf.Pu.ParseUintPublic10
import Derived.Shelf.Strings.Search1
import Derived.Shelf.Strings.Prefix
import Derived.Shelf.Unicode.Decode
import Derived.Shelf.Strings.Runes
import Derived.Shelf.Strings.AsciiSet
import Derived.Shelf.Bits.Mul64
import Derived.Shelf.Strings.Repeat
import Derived.Shelf.Unicode.DecodeSlow
import Derived.Shelf.Unicode.DecodeAny
import Derived.Shelf.Unicode.DecodeLast
import Derived.Ground.Names2Prog
import Derived.Shelf.Slices.ReverseS
import Derived.Shelf.Slices.SearchI
import Derived.Shelf.Slices.Cells
import Derived.Ground.SlgnProg
import Derived.Shelf.SlicesE.Clone
import Derived.Test.YtpgmchpdpgahfaaGreatDoorKTopRoot6
import Derived.Test.YtpgmchpdpgahfaaGreatDoorKTopRoot11
import Derived.Test.YtpgmchpdpgahfaaGreatDoorKTopRoot12
import Derived.Test.YtpgmchpdpgahfaaGreatDoorKTopRoot13
import Derived.Test.YtpgmchpdpgahfaaGreatDoorKTopRoot17
import Derived.Test.YtpgmchpdpgahfaaGreatDoorKTopRoot18
import Derived.Test.YtpgmchpdpgahfaaGreatDoorKTopRoot19
set_option linter.unusedVariables false
set_option linter.unusedSimpArgs false
namespace Go.Ulp
open Go.RowKit
theorem less_dec {a b : Nat} {p : Int} (h : IsDec a b p) (c : Int) : lessT a b c = decide (p < c) := by
  by_cases h1 : p < c
  · rw [decide_eq_true h1]
    have := lessT_le a b (p + 1) (c - (p + 1)).toNat h.2
    rwa [show p + 1 + ((c - (p + 1)).toNat : Int) = c by omega] at this
  · rw [decide_eq_false h1]
    cases hh : lessT a b c with
    | false => rfl
    | true =>
      have := lessT_le a b c (p - c).toNat hh
      rw [show c + ((p - c).toNat : Int) = p by omega, h.1] at this
      cases this
theorem tdiv_bd (a : Int) (h : -90309000 ≤ a ∧ a ≤ 90309000) : -904 ≤ a.tdiv 100000 ∧ a.tdiv 100000 ≤ 904 := by
  rcases Int.le_total 0 a with h0 | h0
  · rw [Int.tdiv_eq_ediv_of_nonneg h0]; omega
  · obtain ⟨c, rfl⟩ : ∃ c, a = -c := ⟨-a, by omega⟩
    rw [Int.neg_tdiv, Int.tdiv_eq_ediv_of_nonneg (by omega)]; omega
end Go.Ulp
namespace Go.Proofs.YtpgmchpdpgahfaaGreatDoor
open Go.RowKit Go.Ulp
set_option linter.unusedVariables false
set_option linter.unusedSimpArgs false
set_option maxHeartbeats 2000000
set_option maxRecDepth 100000
theorem less1_any (g : Nat) (D : Dy) (am : Option Addr) (cm : Nat) (pd c : Int) (w : World) (hz : QL 43 w g (decide (D.1 < 0)) (.slice am (limbs D.1.natAbs).length cm) D.2) (hN : Ns .u32 w am cm (limbs D.1.natAbs)) (hl : (limbs D.1.natAbs).length ≤ 1000) (he : -20000 ≤ D.2 ∧ D.2 ≤ 20000) (hc : -10000 ≤ c ∧ c ≤ 10000) (hp : IsDec (dA D) (dB D) pd) :
    Calls Tryz.prog 84 #[.int .i64 c, .pointer (some ⟨g, 0, none⟩)] w fun e w' => e = .returned (.bool (decide (pd < c))) ∧ Below w.heap.size w w' := by
  have SC := hid (show ∀ w, Ns .u32 w am cm (limbs D.1.natAbs) → Calls Tryz.prog 85 #[.agg #[.bool (decide (D.1 < 0)), .slice am (limbs D.1.natAbs).length cm, .int .i64 D.2], .int .i64 (-c)] w (RetRat w (decide (D.1 < 0)) (dA D * tnN (-c)) (dB D * tnN c)) from fun w h => by
    have h9 := scaled_any _ D (-c) w ⟨am, cm, rfl, h⟩ hl he (by omega)
    rwa [show - -c = c by omega] at h9)
  obtain ⟨A, hA⟩ : ∃ A, A = dA D * tnN (-c) := ⟨_, rfl⟩
  obtain ⟨B, hB⟩ : ∃ B, B = dB D * tnN c := ⟨_, rfl⟩
  have HL := hid (show decide (cmpI (A : Int) (B : Int) < 0) = decide (pd < c) by
    rw [← less_dec hp c]
    unfold lessT
    rw [decide_eq_decide, cmpI_lt, hA, hB]
    omega)
  rw [← hA, ← hB] at SC
  have CM := hid (show ∀ a0 a1 c0 c1 w, Ns .u32 w a0 c0 (limbs A) → Ns .u32 w a1 c1 (limbs B) → Calls Tryz.prog 36 #[.slice a0 (limbs A).length c0, .slice a1 (limbs B).length c1] w fun e w' => e = .returned (.int .i64 (cmpI A B)) ∧ Below w.heap.size w w' from fun a0 a1 c0 c1 w h0 h1 => (compare_any a0 a1 c0 c1 A B w h0 h1).mono fun e w' ⟨k1, nq, k2⟩ => ⟨k1, by rw [k2]; exact below_drewN (Below.refl _ _) nq⟩)
  have hwc : IntKind.i64.wrap (-c) = -c := IntWalk.i64_in _ (by omega)
  have HN := hid hN
  obtain ⟨⟨j0, j1, -⟩, j2, -⟩ := id hz
  generalize decide (D.1 < 0) = neg at *
  generalize decide (pd < c) = bb at *
  clear hA hB hN hz hl he hp
  go_enter Tryz.func84, Tryz.ntmps84
  go_upto_region 2 with (go_at_call 85; (with_reducible refine (SC.out _ HN.out).mono ?_); rintro en w1 ⟨g4, rfl, ⟨an, cn, bn, dn, k0, k3, k4, hNa, hNb⟩, hb1⟩)
  have NA := hid hNa
  have NB := hid hNb
  refine wp_region_grow 11 [9, 10, 11, 12, 13, 14, 15, 16, 17, 18, 3] [Fact.is (.pointer (some ⟨g4, 0, none⟩)), Fact.is (.pointer (some ⟨g4, 0, none⟩)), Fact.is (.pointer (some ⟨g4, 3, none⟩)), Fact.is (.slice an (limbs A).length cn), Fact.is (.pointer (some ⟨g4, 0, none⟩)), Fact.is (.pointer (some ⟨g4, 0, none⟩)), Fact.is (.pointer (some ⟨g4, 4, none⟩)), Fact.is (.slice bn (limbs B).length dn), Fact.is (.int .i64 (cmpI A B)), Fact.is (.bool bb), Fact.is (.bool bb)] (by kernel_rfl) (by kernel_rfl) ⟨?o0, ?o1, ?o2, ?o3, ?o4, ?o5, ?o6, ?o7, ?o8, ?o9, ?o10, trivial⟩ ?after
  case o0 => (refine StepOK.plain rfl ?_; intro ρ w1 R hρ hb hp hR; have e4 : ρ (.tmp 4) = .pointer (some ⟨g4, 0, none⟩) := hρ.tmp 4 rfl; have hcon := hρ.con; have hfn := hρ.fn; clear hρ hp; unfold OpRun; go_simp; exact hR _ _ (Below.refl _ _) rfl)
  case o1 => (refine StepOK.plain rfl ?_; intro ρ w1 R hρ hb hp hR; have e9 : ρ (.tmp 9) = _ := hp 0 9 rfl rfl; have hcon := hρ.con; have hfn := hρ.fn; clear hρ hp; unfold OpRun; go_simp; exact hR _ _ (Below.refl _ _) rfl)
  case o2 => (refine StepOK.plain rfl ?_; intro ρ w1 R hρ hb hp hR; have e10 : ρ (.tmp 10) = _ := hp 1 10 rfl rfl; have hcon := hρ.con; have hfn := hρ.fn; clear hρ hp; unfold OpRun; go_simp; exact hR _ _ (Below.refl _ _) rfl)
  case o3 => (refine StepOK.plain rfl ?_; intro ρ w1 R hρ hb hp hR; have e11 : ρ (.tmp 11) = _ := hp 2 11 rfl rfl; have j3 := (hb.cell (World.block_lt_of_cell? _ _ k3)).trans k3; have hcon := hρ.con; have hfn := hρ.fn; clear hρ hp; unfold OpRun; go_simp; exact hR _ _ (Below.refl _ _) rfl)
  case o4 => (refine StepOK.plain rfl ?_; intro ρ w1 R hρ hb hp hR; have e4 : ρ (.tmp 4) = .pointer (some ⟨g4, 0, none⟩) := hρ.tmp 4 rfl; have hcon := hρ.con; have hfn := hρ.fn; clear hρ hp; unfold OpRun; go_simp; exact hR _ _ (Below.refl _ _) rfl)
  case o5 => (refine StepOK.plain rfl ?_; intro ρ w1 R hρ hb hp hR; have e13 : ρ (.tmp 13) = _ := hp 4 13 rfl rfl; have hcon := hρ.con; have hfn := hρ.fn; clear hρ hp; unfold OpRun; go_simp; exact hR _ _ (Below.refl _ _) rfl)
  case o6 => (refine StepOK.plain rfl ?_; intro ρ w1 R hρ hb hp hR; have e14 : ρ (.tmp 14) = _ := hp 5 14 rfl rfl; have hcon := hρ.con; have hfn := hρ.fn; clear hρ hp; unfold OpRun; go_simp; exact hR _ _ (Below.refl _ _) rfl)
  case o7 => (refine StepOK.plain rfl ?_; intro ρ w1 R hρ hb hp hR; have e15 : ρ (.tmp 15) = _ := hp 6 15 rfl rfl; have j4 := (hb.cell (World.block_lt_of_cell? _ _ k4)).trans k4; have hcon := hρ.con; have hfn := hρ.fn; clear hρ hp; unfold OpRun; go_simp; exact hR _ _ (Below.refl _ _) rfl)
  case o8 => (refine StepOK.plain rfl ?_; intro ρ w1 R hρ hb hp hR; have e12 : ρ (.tmp 12) = _ := hp 3 12 rfl rfl; have e16 : ρ (.tmp 16) = _ := hp 7 16 rfl rfl; have hcon := hρ.con; have hfn := hρ.fn; clear hρ hp; unfold OpRun; go_simp; (refine (CM.out _ _ _ _ _ (NA.out.below hb) (NB.out.below hb)).mono ?_; rintro e wn ⟨rfl, hbn⟩; exact ⟨_, rfl, hR _ _ hbn rfl⟩))
  case o9 => (refine StepOK.plain rfl ?_; intro ρ w1 R hρ hb hp hR; have e17 : ρ (.tmp 17) = _ := hp 8 17 rfl rfl; have hx9 := HL.out; have hcon := hρ.con; have hfn := hρ.fn; clear hρ hp; unfold OpRun; go_simp; exact hR _ _ (Below.refl _ _) rfl)
  case o10 => (refine StepOK.plain rfl ?_; intro ρ w1 R hρ hb hp hR; have e18 : ρ (.tmp 18) = _ := hp 9 18 rfl rfl; have hcon := hρ.con; have hfn := hρ.fn; clear hρ hp; unfold OpRun; go_simp; exact hR _ _ (Below.refl _ _) rfl)
  case after =>
    intro u wn hb hf
    have e3 : u 3 = _ := hf 10 3 (by omega) rfl
    clear hf
    simp only [putAll, Act.put, List.setIfInBounds_toArray, List.set_cons_zero, List.set_cons_succ, List.drop_succ_cons, List.drop_zero, List.drop_nil]
    rw [e3]
    go_wp2_with fail
    go_ret
    exact ⟨rfl, below_trans hb1 hb⟩
theorem log10_any (v : Value) (D : Dy) (pd : Int) (w : World) (hv : VD w D v) (hl : D.1.natAbs < 2 ^ 60) (he : -2000 ≤ D.2 ∧ D.2 ≤ 2000) (hp : IsDec (dA D) (dB D) pd) (hpb : -3000 ≤ pd ∧ pd ≤ 3000) :
    Calls Tryz.prog 54 #[v] w fun e w' => e = .returned (.int .i64 pd) ∧ Below w.heap.size w w' := by
  obtain ⟨am, cm, rfl, hN⟩ := hv
  have lM := limbs_short2 60 2 (by omega) _ hl
  have hbl : bl D.1.natAbs ≤ 60 := (bl_le _ 60).2 hl
  have LN := hid (fun w h => natLen_any am cm D.1.natAbs w h (by omega))
  have LE := hid (fun g c w z h hc => less1_any g D am cm pd c w z h (by omega) (by omega) hc hp)
  obtain ⟨l, hlb⟩ : ∃ l, l = bl D.1.natAbs := ⟨_, rfl⟩
  rw [← hlb] at LN hbl
  obtain ⟨x, hx⟩ : ∃ x, x = D.2 := ⟨_, rfl⟩
  rw [← hx] at LE he ⊢
  obtain ⟨p0, hp0⟩ : ∃ p0, p0 = (((l : Int) + x - 1) * 30103).tdiv 100000 := ⟨_, rfl⟩
  have hpb0 := tdiv_bd (((l : Int) + x - 1) * 30103) (by omega)
  rw [← hp0] at hpb0
  have HP0 := hid hp0.symm
  have HN := hid hN
  have hmf : ∀ fn first cap w, (Instr.makeFunc fn first cap).run Tryz.prog w = .ok (.func fn first cap) w := fun _ _ _ _ => rfl
  have zQ : QL 43 (w.alloc (.cells #[.bool (decide (D.1 < 0)), .slice am (limbs D.1.natAbs).length cm, .int .i64 x] 43)) w.heap.size (decide (D.1 < 0)) (.slice am (limbs D.1.natAbs).length cm) x := QL.made rfl
  have yb0 := below_alloc w (.cells #[.bool (decide (D.1 < 0)), .slice am (limbs D.1.natAbs).length cm, .int .i64 x] 43)
  clear hp0 hlb hx hN lM hp hl
  go_enter Tryz.func54, Tryz.ntmps54
  go_upto_region 1 with fail
  refine wp_worldZ (fun WW => Below w.heap.size w WW ∧ QL 43 WW w.heap.size (decide (D.1 < 0)) (.slice am (limbs D.1.natAbs).length cm) x ∧ Ns .u32 WW am cm (limbs D.1.natAbs)) ⟨yb0, zQ, HN.out.below yb0⟩ ?_
  intro W1 ⟨y1, z1, hN1⟩
  obtain ⟨g1, hg1⟩ : ∃ g, g = w.heap.size := ⟨_, rfl⟩
  rw [← hg1] at z1 ⊢
  have H1 := hid z1
  have HN1 := hid hN1
  clear hg1 zQ yb0 HN hN1 z1
  refine wp_region_grow 10 [5, 6, 7, 8, 9, 10, 11, 12, 13, 3] [Fact.is (.pointer (some ⟨g1, 1, none⟩)), Fact.is (.slice am (limbs D.1.natAbs).length cm), Fact.is (.int .i64 (l : Int)), Fact.is (.pointer (some ⟨g1, 2, none⟩)), Fact.is (.int .i64 x), Fact.is (.int .i64 ((l : Int) + x)), Fact.is (.int .i64 ((l : Int) + x - 1)), Fact.is (.int .i64 (((l : Int) + x - 1) * 30103)), Fact.is (.int .i64 p0), Fact.is (.int .i64 p0)] (by kernel_rfl) (by kernel_rfl) ⟨?o0, ?o1, ?o2, ?o3, ?o4, ?o5, ?o6, ?o7, ?o8, ?o9, trivial⟩ ?after
  case o0 => (refine StepOK.plain rfl ?_; intro ρ w1 R hρ hb hp hR; have e1 : ρ (.tmp 1) = .pointer (some ⟨g1, 0, none⟩) := hρ.tmp 1 rfl; have hcon := hρ.con; have hfn := hρ.fn; clear hρ hp; unfold OpRun; go_simp; exact hR _ _ (Below.refl _ _) rfl)
  case o1 => (refine StepOK.plain rfl ?_; intro ρ w1 R hρ hb hp hR; have e5 : ρ (.tmp 5) = _ := hp 0 5 rfl rfl; obtain ⟨⟨j0, j1, -⟩, j2, -⟩ := H1.out.below hb; have hcon := hρ.con; have hfn := hρ.fn; clear hρ hp; unfold OpRun; go_simp; exact hR _ _ (Below.refl _ _) rfl)
  case o2 => (refine StepOK.plain rfl ?_; intro ρ w1 R hρ hb hp hR; have e6 : ρ (.tmp 6) = _ := hp 1 6 rfl rfl; have hcon := hρ.con; have hfn := hρ.fn; clear hρ hp; unfold OpRun; go_simp; (refine (LN.out _ (HN1.out.below hb)).mono ?_; rintro e wn ⟨rfl, rfl⟩; exact ⟨_, rfl, hR _ _ (Below.refl _ _) rfl⟩))
  case o3 => (refine StepOK.plain rfl ?_; intro ρ w1 R hρ hb hp hR; have e1 : ρ (.tmp 1) = .pointer (some ⟨g1, 0, none⟩) := hρ.tmp 1 rfl; have hcon := hρ.con; have hfn := hρ.fn; clear hρ hp; unfold OpRun; go_simp; exact hR _ _ (Below.refl _ _) rfl)
  case o4 => (refine StepOK.plain rfl ?_; intro ρ w1 R hρ hb hp hR; have e8 : ρ (.tmp 8) = _ := hp 3 8 rfl rfl; obtain ⟨⟨j0, j1, -⟩, j2, -⟩ := H1.out.below hb; have hcon := hρ.con; have hfn := hρ.fn; clear hρ hp; unfold OpRun; go_simp; exact hR _ _ (Below.refl _ _) rfl)
  case o5 => (refine StepOK.plain rfl ?_; intro ρ w1 R hρ hb hp hR; have e7 : ρ (.tmp 7) = _ := hp 2 7 rfl rfl; have e9 : ρ (.tmp 9) = _ := hp 4 9 rfl rfl; have hw9 : IntKind.i64.wrap ((l : Int) + x) = (l : Int) + x := IntWalk.i64_in _ (by omega); have hcon := hρ.con; have hfn := hρ.fn; clear hρ hp; unfold OpRun; go_simp; exact hR _ _ (Below.refl _ _) rfl)
  case o6 => (refine StepOK.plain rfl ?_; intro ρ w1 R hρ hb hp hR; have e10 : ρ (.tmp 10) = _ := hp 5 10 rfl rfl; have hw9 : IntKind.i64.wrap ((l : Int) + x - 1) = (l : Int) + x - 1 := IntWalk.i64_in _ (by omega); have hcon := hρ.con; have hfn := hρ.fn; clear hρ hp; unfold OpRun; go_simp; exact hR _ _ (Below.refl _ _) rfl)
  case o7 => (refine StepOK.plain rfl ?_; intro ρ w1 R hρ hb hp hR; have e11 : ρ (.tmp 11) = _ := hp 6 11 rfl rfl; have hw9 : IntKind.i64.wrap (((l : Int) + x - 1) * 30103) = ((l : Int) + x - 1) * 30103 := IntWalk.i64_in _ (by omega); have hcon := hρ.con; have hfn := hρ.fn; clear hρ hp; unfold OpRun; go_simp; exact hR _ _ (Below.refl _ _) rfl)
  case o8 => (refine StepOK.plain rfl ?_; intro ρ w1 R hρ hb hp hR; have e12 : ρ (.tmp 12) = _ := hp 7 12 rfl rfl; have hx9 := HP0.out; have hw9 : IntKind.i64.wrap p0 = p0 := IntWalk.i64_in _ (by omega); have hcon := hρ.con; have hfn := hρ.fn; clear hρ hp; unfold OpRun; go_simp; exact hR _ _ (Below.refl _ _) rfl)
  case o9 => (refine StepOK.plain rfl ?_; intro ρ w1 R hρ hb hp hR; have e13 : ρ (.tmp 13) = _ := hp 8 13 rfl rfl; have hcon := hρ.con; have hfn := hρ.fn; clear hρ hp; unfold OpRun; go_simp; exact hR _ _ (Below.refl _ _) rfl)
  case after =>
    intro u wn hb hf
    have e3 : u 3 = _ := hf 9 3 (by omega) rfl
    clear hf
    simp only [putAll, Act.put, List.setIfInBounds_toArray, List.set_cons_zero, List.set_cons_succ, List.drop_succ_cons, List.drop_zero, List.drop_nil]
    rw [e3]
    have y2 := below_trans y1 hb
    have H2 := hid (H1.out.below hb)
    have HN2 := hid (HN1.out.below hb)
    obtain ⟨W2, hW2⟩ : ∃ W, W = wn := ⟨_, rfl⟩
    subst hW2
    clear H1 HN1 y1 hb HP0 LN
    go_wp2_with fail
    go_loopw [3] (fun s3 wr => ∃ c : Int, s3 = .int .i64 c ∧ -3000 ≤ c ∧ c ≤ 3000 ∧ Below W2.heap.size W2 wr) (fun s3 _ => (intOf s3 - pd).toNat)
    case atStart => exact ⟨p0, rfl, by omega, by omega, Below.refl _ _⟩
    case round =>
      obtain ⟨c, rfl, c1, c2, hbr⟩ := hrel
      have HLc := hid (LE.out g1 c wr (H2.out.below hbr) (HN2.out.below hbr) (by omega))
      by_cases hpc : pd < c
      · have hwc : IntKind.i64.wrap (c - 1) = c - 1 := IntWalk.i64_in _ (by omega)
        have HLd := hid (show Calls Tryz.prog 84 #[.int .i64 c, .pointer (some ⟨g1, 0, none⟩)] wr fun e w' => e = .returned (.bool true) ∧ Below wr.heap.size wr w' from by
          have h9 := HLc.out
          rwa [decide_eq_true hpc] at h9)
        clear HLc
        go_wp2_with (go_at_call 84; (with_reducible refine HLd.out.mono ?_); rintro en w3 ⟨rfl, hb3⟩)
        go_roundw
        case rel => exact ⟨c - 1, rfl, by omega, by omega, below_trans hbr hb3⟩
        case measure => simp [intOf]; omega
      · have HLd := hid (show Calls Tryz.prog 84 #[.int .i64 c, .pointer (some ⟨g1, 0, none⟩)] wr fun e w' => e = .returned (.bool false) ∧ Below wr.heap.size wr w' from by
          have h9 := HLc.out
          rwa [decide_eq_false hpc] at h9)
        clear HLc
        have HLE := hid (show c ≤ pd by omega)
        clear hpc
        go_wp2_with (go_at_call 84; (with_reducible refine HLd.out.mono ?_); rintro en w3 ⟨rfl, hb3⟩)
        have y3 := below_trans hbr hb3
        go_loopw [3] (fun s3 wq => ∃ d : Int, s3 = .int .i64 d ∧ -3000 ≤ d ∧ d ≤ pd ∧ Below W2.heap.size W2 wq) (fun s3 _ => (pd - intOf s3).toNat)
        case atStart => exact ⟨c, rfl, by omega, HLE.out, y3⟩
        case round =>
          obtain ⟨d, rfl, d1, d2, hbd⟩ := hrel
          have hwd : IntKind.i64.wrap (d + 1) = d + 1 := IntWalk.i64_in _ (by omega)
          have HLe := hid (LE.out g1 (d + 1) _ (H2.out.below hbd) (HN2.out.below hbd) (by omega))
          by_cases hpe : pd < d + 1
          · have HLf := hid (show Calls Tryz.prog 84 #[.int .i64 (d + 1), .pointer (some ⟨g1, 0, none⟩)] _ fun e w' => e = .returned (.bool true) ∧ Below _ _ w' from by
              have h9 := HLe.out
              rwa [decide_eq_true hpe] at h9)
            have hde := hid (show d = pd by omega)
            clear HLe hpe
            go_wp2_with (go_at_call 84; (with_reducible refine HLf.out.mono ?_); rintro en w4 ⟨rfl, hb4⟩)
            go_ret
            exact ⟨by rw [← hde.out]; rfl, below_trans (below_trans y2 hbd) hb4⟩
          · have HLf := hid (show Calls Tryz.prog 84 #[.int .i64 (d + 1), .pointer (some ⟨g1, 0, none⟩)] _ fun e w' => e = .returned (.bool false) ∧ Below _ _ w' from by
              have h9 := HLe.out
              rwa [decide_eq_false hpe] at h9)
            have HDD := hid (show d + 1 ≤ pd by omega)
            clear HLe hpe
            go_wp2_with (go_at_call 84; (with_reducible refine HLf.out.mono ?_); rintro en w4 ⟨rfl, hb4⟩)
            go_roundw
            case rel => exact ⟨d + 1, rfl, by omega, HDD.out, below_trans hbd hb4⟩
            case measure => have := HDD.out; simp [intOf]; omega
theorem digits10_any (v : Value) (D : Dy) (k : Nat) (mode pd : Int) (w : World) (hv : VD w D v) (hD : D.1 ≠ 0) (hl : D.1.natAbs < 2 ^ 60) (he : -2000 ≤ D.2 ∧ D.2 ≤ 2000) (hp : IsDec (dA D) (dB D) pd) (hpb : -3000 ≤ pd ∧ pd ≤ 3000) (hk : k ≤ 2000) (hT10 : Tab10 w) :
    Calls Tryz.prog 55 #[v, .int .i64 ((k : Int) + 1), .int .i64 mode] w fun e w' => e = .returned (.tuple #[.string (bsOf (sciD (sciQ (decide (D.1 < 0)) (dA D) (dB D) k pd mode) k)), .int .i64 (sciP (sciQ (decide (D.1 < 0)) (dA D) (dB D) k pd mode) k pd), .bool (sciC (dA D) (dB D) k pd)]) ∧ Below w.heap.size w w' := by
  obtain ⟨am, cm, rfl, hN⟩ := hv
  obtain ⟨q, hq⟩ : ∃ q, q = sciQ (decide (D.1 < 0)) (dA D) (dB D) k pd mode := ⟨_, rfl⟩
  obtain ⟨q1, q2⟩ := sciQ_bd (decide (D.1 < 0)) (dA D) (dB D) k pd mode (dB_pos D) hp
  rw [← hq] at q1 q2 ⊢
  have lM := limbs_short2 60 2 (by omega) _ hl
  obtain ⟨A, hA⟩ : ∃ A, A = dA D * tnN ((k : Int) - pd) := ⟨_, rfl⟩
  obtain ⟨B, hB⟩ : ∃ B, B = dB D * tnN (-((k : Int) - pd)) := ⟨_, rfl⟩
  have hB0 : 0 < B := by rw [hB]; exact Nat.mul_pos (dB_pos D) (tnN_pos _)
  have hAb : (limbs A).length ≤ 10000 := by
    obtain ⟨X, hX⟩ : ∃ X, X = D.2.toNat := ⟨_, rfl⟩
    obtain ⟨Y, hY⟩ : ∃ Y, Y = ((k : Int) - pd).toNat := ⟨_, rfl⟩
    have h10 : (10 : Nat) ^ Y ≤ (2 ^ 4) ^ Y := Nat.pow_le_pow_left (by decide) Y
    rw [← Nat.pow_mul] at h10
    refine limbs_short2 (60 + X + (4 * Y + 1)) 10000 (by omega) A ?_
    rw [hA]; unfold dA tnN
    rw [← hX, ← hY, Nat.pow_add, Nat.pow_add]
    refine Nat.mul_lt_mul'' (Nat.mul_lt_mul_of_pos_right hl (Nat.two_pow_pos _)) ?_
    rw [Nat.pow_succ]
    have := Nat.two_pow_pos (4 * Y)
    omega
  have hBb : (limbs B).length ≤ 10000 := by
    obtain ⟨X, hX⟩ : ∃ X, X = (-D.2).toNat := ⟨_, rfl⟩
    obtain ⟨Y, hY⟩ : ∃ Y, Y = (-((k : Int) - pd)).toNat := ⟨_, rfl⟩
    have h10 : (10 : Nat) ^ Y ≤ (2 ^ 4) ^ Y := Nat.pow_le_pow_left (by decide) Y
    rw [← Nat.pow_mul] at h10
    refine limbs_short2 (X + 1 + (4 * Y + 1)) 10000 (by omega) B ?_
    rw [hB]; unfold dB tnN
    rw [← hX, ← hY, Nat.pow_add]
    refine Nat.mul_lt_mul'' (Nat.pow_lt_pow_right (by omega) (by omega)) ?_
    rw [Nat.pow_succ]
    have := Nat.two_pow_pos (4 * Y)
    omega
  have hqs : q = rtN (decide (D.1 < 0)) A B mode := by rw [hq, hA, hB]; rfl
  have hcs : sciC (dA D) (dB D) k pd = rtC A B := by rw [hA, hB]; rfl
  have hql : (limbs q).length ≤ 30001 := by
    have h1 := (rtN_ge (decide (D.1 < 0)) A B mode).2
    have h2 := Nat.div_le_self A B
    have h3 : q ≤ A + 1 := by omega
    have h4 : (limbs 1).length ≤ 1 := (digs_len_le 4294967296 (by omega) 1 1).2 (by omega)
    have h5 := limbs_len_add A 1 10000 10000 hAb (by omega)
    exact Nat.le_trans (limbs_len_mono h3) (by omega)
  rw [hcs]
  have LG := hid (show ∀ w, Ns .u32 w am cm (limbs D.1.natAbs) → Calls Tryz.prog 54 #[.agg #[.bool (decide (D.1 < 0)), .slice am (limbs D.1.natAbs).length cm, .int .i64 D.2]] w fun e w' => e = .returned (.int .i64 pd) ∧ Below w.heap.size w w' from fun w h => log10_any _ D pd w ⟨am, cm, rfl, h⟩ hl he hp hpb)
  have SC := hid (show ∀ w, Ns .u32 w am cm (limbs D.1.natAbs) → Calls Tryz.prog 85 #[.agg #[.bool (decide (D.1 < 0)), .slice am (limbs D.1.natAbs).length cm, .int .i64 D.2], .int .i64 ((k : Int) - pd)] w (RetRat w (decide (D.1 < 0)) A B) from fun w h => by
    rw [hA, hB]
    exact scaled_any _ D ((k : Int) - pd) w ⟨am, cm, rfl, h⟩ (by omega) (by omega) (by omega))
  have RO := hid (fun g w h => by
    have h9 := ratioRound_any g (decide (D.1 < 0)) A B mode w h (by omega) hB0 (by omega)
    rwa [← hqs] at h9)
  have DE := hid (fun ao c w h t => decimal_any ao c q w h (by omega) t)
  have hov := sciD_over q k q1 q2
  have hdl : (decD q).length ≤ k + 2 := decD_len_lt q (k + 2) (Nat.lt_of_le_of_lt q2 (Nat.pow_lt_pow_right (by omega) (by omega))) (by omega)
  obtain ⟨l, hll⟩ : ∃ l, l = (decD q).length := ⟨_, rfl⟩
  have hsz : (bsOf (decD q)).size = l := by rw [bs_size, hll]
  have HN := hid hN
  have HT := hid hT10
  have zQ : QL 43 (w.alloc (.cells #[.bool (decide (D.1 < 0)), .slice am (limbs D.1.natAbs).length cm, .int .i64 D.2] 43)) w.heap.size (decide (D.1 < 0)) (.slice am (limbs D.1.natAbs).length cm) D.2 := QL.made rfl
  have yb0 := below_alloc w (.cells #[.bool (decide (D.1 < 0)), .slice am (limbs D.1.natAbs).length cm, .int .i64 D.2] 43)
  have hlm : ((limbs D.1.natAbs).length : Int) ≠ 0 := by
    intro h
    have := (limbs_nil D.1.natAbs).1 (List.length_eq_zero_iff.1 (by omega))
    omega
  have hlz : (((limbs D.1.natAbs).length : Int) == 0) = false := beq_eq_false_iff_ne.2 hlm
  have hw1 : (k : Int) + 1 - 1 = (k : Int) := by omega
  have hw2 : IntKind.i64.wrap ((k : Int) - pd) = (k : Int) - pd := IntWalk.i64_in _ (by omega)
  have hw3 : IntKind.i64.wrap (k : Int) = (k : Int) := IntWalk.i64_in _ (by omega)
  have hw4 : IntKind.i64.wrap (pd + 1) = pd + 1 := IntWalk.i64_in _ (by omega)
  have HR1 := hid (show (k + 1 < l) → sciD q k = (decD q).take (k + 1) ∧ sciP q k pd = pd + 1 from fun h => by
    have h2 : 10 ^ (k + 1) ≤ q := by rw [← hov, ← hll]; exact h
    unfold sciD sciP
    rw [if_pos h2, if_pos h2, (sciD_take q k q1 q2 h2).1]
    exact ⟨rfl, rfl⟩)
  have HR2 := hid (show ¬ (k + 1 < l) → sciD q k = decD q ∧ sciP q k pd = pd from fun h => by
    have h2 : ¬ 10 ^ (k + 1) ≤ q := by rw [← hov, ← hll]; exact h
    unfold sciD sciP
    rw [if_neg h2, if_neg h2]
    exact ⟨rfl, rfl⟩)
  have hS := fun h => slice_to (P := Tryz.prog) Tryz.underlying9 (decD q) ((k : Int) + 1) (by omega) h
  rw [show ((k : Int) + 1).toNat = k + 1 by omega, ← hll] at hS
  have hl2 : l ≤ k + 2 := by omega
  generalize sciD q k = RD at *
  generalize sciP q k pd = RP at *
  generalize decD q = T at *
  generalize rtC A B = CC at *
  clear hq hqs hcs hA hB hAb hBb hB0 hql q1 q2 hov hdl hN hT10 hp hD hl hll lM hlm
  go_enter Tryz.func55, Tryz.ntmps55
  go_upto_region 1 with fail
  refine wp_worldZ (fun WW => Below w.heap.size w WW ∧ QL 43 WW w.heap.size (decide (D.1 < 0)) (.slice am (limbs D.1.natAbs).length cm) D.2 ∧ Ns .u32 WW am cm (limbs D.1.natAbs)) ⟨yb0, zQ, HN.out.below yb0⟩ ?_
  intro W1 ⟨y1, z1, hN1⟩
  obtain ⟨g1, hg1⟩ : ∃ g, g = w.heap.size := ⟨_, rfl⟩
  rw [← hg1] at z1 ⊢
  have H1 := hid z1
  have HN1 := hid hN1
  obtain ⟨⟨j0, j1, -⟩, j2, -⟩ := id z1
  clear hg1 zQ yb0 HN hN1 z1
  generalize decide (D.1 < 0) = neg at *
  go_upto_if 37 with (first
    | (go_at_call 54; (with_reducible refine (LG.out _ HN1.out).mono ?_); rintro en w2 ⟨rfl, hb2⟩; obtain ⟨⟨i0, i1, -⟩, i2, -⟩ := H1.out.below hb2)
    | (go_at_call 85; (with_reducible refine (SC.out _ (HN1.out.below hb2)).mono ?_); rintro en w5 ⟨g5, rfl, hr5, hb5⟩)
    | (go_at_call 86; (with_reducible refine (RO.out _ _ hr5).mono ?_); rintro en w6 ⟨aq, cq, rfl, hNq, hb6⟩; have y6 := below_trans (below_trans (below_trans y1 hb2) hb5) hb6)
    | (go_at_call 59; (with_reducible refine (DE.out _ _ _ hNq (HT.out.below y6)).mono ?_); rintro en w8 ⟨rfl, hb8⟩))
  by_cases hkl : k + 1 < l
  · obtain ⟨r1, r2⟩ := HR1.out hkl
    have hS2 := hS (by omega)
    have hkl2 : (k : Int) + 1 < (l : Int) := by omega
    have R1 := hid r1
    have R2 := hid r2
    clear HR1 HR2 hS r1 r2
    go_wp2_with fail
    go_ret3
    exact ⟨by rw [R1.out, R2.out]; rfl, below_trans y6 hb8⟩
  · obtain ⟨r1, r2⟩ := HR2.out hkl
    have hkl2 : ¬ (k : Int) + 1 < (l : Int) := by omega
    have R1 := hid r1
    have R2 := hid r2
    clear HR1 HR2 hS r1 r2
    go_wp2_with fail
    go_ret3
    exact ⟨by rw [R1.out, R2.out]; rfl, below_trans y6 hb8⟩
theorem power_any (p : Int) (hp : -1000000 ≤ p ∧ p ≤ 1000000) (w : World) (hT10 : Tab10 w) :
    Calls Tryz.prog 28 #[.int .i64 p] w fun e w' => e = .returned (.string (bsOf (pwrT p))) ∧ Below w.heap.size w w' := by
  obtain ⟨n, hn⟩ : ∃ n, n = p.natAbs := ⟨_, rfl⟩
  have HP := hid (show pwrT p = (if p < 0 then 45 else 43) :: ((if n < 10 then [48] else []) ++ decD n) by unfold pwrT; rw [← hn])
  have IT := hid (show ∀ w, Tab10 w → Calls Tryz.prog 61 #[.int .i64 (n : Int)] w fun e w' => e = .returned (.string (bsOf (decD n))) ∧ Below w.heap.size w w' from fun w t => by
    have h9 := itoa_any (n : Int) (by omega) (by omega) w t
    rwa [itoa_nat] at h9)
  have lD : (decD n).length ≤ 8 := decD_len 7 n (by omega)
  have HT := hid hT10
  generalize decD n = T at *
  have a1 := add_bs (P := Tryz.prog) [43] [48] (by simp)
  have a2 := add_bs (P := Tryz.prog) [45] [48] (by simp)
  have a3 := add_bs (P := Tryz.prog) [43] T (by simp; omega)
  have a4 := add_bs (P := Tryz.prog) [45] T (by simp; omega)
  have a5 := add_bs (P := Tryz.prog) [43, 48] T (by simp; omega)
  have a6 := add_bs (P := Tryz.prog) [45, 48] T (by simp; omega)
  have b1 : (ByteArray.mk #[43]) = bsOf [43] := rfl
  have b2 : (ByteArray.mk #[45]) = bsOf [45] := rfl
  have b3 : (ByteArray.mk #[48]) = bsOf [48] := rfl
  simp only [List.cons_append, List.nil_append] at a1 a2 a3 a4 a5 a6
  clear hT10
  by_cases h0 : p < 0
  · have hpn : -p = (n : Int) := by omega
    have hwn : IntKind.i64.wrap (n : Int) = (n : Int) := IntWalk.i64_in _ (by omega)
    by_cases h1 : n < 10
    · have HR := hid (show pwrT p = 45 :: 48 :: T by rw [HP.out, if_pos h0, if_pos h1]; rfl)
      have h2 : (n : Int) < 10 := by omega
      clear HP hn
      go_enter Tryz.func28, Tryz.ntmps28
      go_wp2_with (go_at_call 61; (with_reducible refine (IT.out _ HT.out).mono ?_); rintro en w1 ⟨rfl, hb1⟩)
      go_ret
      exact ⟨by rw [HR.out]; rfl, hb1⟩
    · have HR := hid (show pwrT p = 45 :: T by rw [HP.out, if_pos h0, if_neg h1]; rfl)
      have h2 : ¬ (n : Int) < 10 := by omega
      clear HP hn
      go_enter Tryz.func28, Tryz.ntmps28
      go_wp2_with (go_at_call 61; (with_reducible refine (IT.out _ HT.out).mono ?_); rintro en w1 ⟨rfl, hb1⟩)
      go_ret
      exact ⟨by rw [HR.out]; rfl, hb1⟩
  · obtain ⟨m, rfl⟩ := Int.eq_ofNat_of_zero_le (show 0 ≤ p by omega)
    rw [Int.natAbs_natCast] at hn
    subst hn
    by_cases h1 : n < 10
    · have HR := hid (show pwrT (n : Int) = 43 :: 48 :: T by rw [HP.out, if_neg h0, if_pos h1]; rfl)
      have h2 : (n : Int) < 10 := by omega
      clear HP
      go_enter Tryz.func28, Tryz.ntmps28
      go_wp2_with (go_at_call 61; (with_reducible refine (IT.out _ HT.out).mono ?_); rintro en w1 ⟨rfl, hb1⟩)
      go_ret
      exact ⟨by rw [HR.out]; rfl, hb1⟩
    · have HR := hid (show pwrT (n : Int) = 43 :: T by rw [HP.out, if_neg h0, if_neg h1]; rfl)
      have h2 : ¬ (n : Int) < 10 := by omega
      clear HP
      go_enter Tryz.func28, Tryz.ntmps28
      go_wp2_with (go_at_call 61; (with_reducible refine (IT.out _ HT.out).mono ?_); rintro en w1 ⟨rfl, hb1⟩)
      go_ret
      exact ⟨by rw [HR.out]; rfl, hb1⟩
end Go.Proofs.YtpgmchpdpgahfaaGreatDoor

set_option linter.unusedVariables false
set_option linter.unusedSimpArgs false
namespace Go.Ulp
open Go.RowKit
/-- digits without the noughts at their end -/
def stp (L : List UInt8) : List UInt8 := (L.reverse.dropWhile fun b => b == 48).reverse
theorem stp_nil : stp [] = [] := rfl
theorem stp_zero (L : List UInt8) : stp (L ++ [48]) = stp L := by
  unfold stp
  rw [List.reverse_append, show ([48] : List UInt8).reverse = [48] from rfl, List.singleton_append, List.dropWhile_cons, if_pos (by decide)]
theorem stp_other (L : List UInt8) (b : UInt8) (h : b ≠ 48) : stp (L ++ [b]) = L ++ [b] := by
  unfold stp
  rw [List.reverse_append, show ([b] : List UInt8).reverse = [b] from rfl, List.singleton_append, List.dropWhile_cons, if_neg (by simpa using h), List.reverse_cons, List.reverse_reverse]
theorem snoc_cases (L : List UInt8) : L = [] ∨ ∃ M b, L = M ++ [b] := by
  rcases List.eq_nil_or_concat L with h | ⟨M, b, h⟩
  · exact .inl h
  · exact .inr ⟨M, b, by rw [h, List.concat_eq_append]⟩
theorem stp_val : ∀ (n : Nat) (L : List UInt8), L.length = n → dvl (stp L) * 10 ^ (L.length - (stp L).length) = dvl L ∧ (stp L).length ≤ L.length := by
  intro n
  induction n with
  | zero =>
    intro L h
    obtain rfl := List.length_eq_zero_iff.1 h
    rw [stp_nil]; exact ⟨by simp, by simp⟩
  | succ n ih =>
    intro L h
    rcases snoc_cases L with rfl | ⟨M, b, rfl⟩
    · exact absurd h (by simp)
    · by_cases hb : b = 48
      · subst hb
        rw [List.length_append, List.length_singleton] at h
        obtain ⟨h1, h2⟩ := ih M (by omega)
        rw [stp_zero, List.length_append, List.length_singleton, show M.length + 1 - (stp M).length = (M.length - (stp M).length) + 1 by omega, Nat.pow_succ, ← Nat.mul_assoc, h1]
        refine ⟨?_, by omega⟩
        unfold dvl
        rw [dvA_app, dvA_cons]; rfl
      · rw [stp_other M b hb, Nat.sub_self, Nat.pow_zero, Nat.mul_one]
        exact ⟨rfl, Nat.le_refl _⟩
theorem stp_dg {L : List UInt8} (h : AllDg L) : AllDg (stp L) := fun b hb => by
  unfold stp at hb
  rw [List.mem_reverse] at hb
  exact h b (List.mem_reverse.1 ((List.dropWhile_sublist _).mem hb))
theorem stp_head {L : List UInt8} {b : UInt8} {r : List UInt8} (h : L = b :: r) (hb : b ≠ 48) : ∃ q, stp L = b :: q := by
  subst h
  suffices H : ∀ (n : Nat) (r : List UInt8), r.length = n → ∃ q, stp (b :: r) = b :: q from H _ r rfl
  intro n
  induction n with
  | zero =>
    intro r h
    obtain rfl := List.length_eq_zero_iff.1 h
    exact ⟨[], by rw [show [b] = [] ++ [b] from rfl, stp_other _ _ hb]⟩
  | succ n ih =>
    intro r h
    rcases snoc_cases r with rfl | ⟨M, c, rfl⟩
    · exact absurd h (by simp)
    · rw [List.length_append, List.length_singleton] at h
      by_cases hc : c = 48
      · subst hc
        rw [← List.cons_append, stp_zero]; exact ih M (by omega)
      · rw [← List.cons_append, stp_other _ _ hc]; exact ⟨M ++ [c], rfl⟩
theorem decD_dg (n : Nat) : AllDg (decD n) := by
  induction n using Nat.strongRecOn with
  | ind n ih =>
    by_cases h : n < 10
    · rw [decD_small h]
      intro b hb
      rw [List.mem_singleton] at hb; subst hb
      unfold isDg
      rw [decide_eq_true_eq, UInt8.toNat_ofNat']; omega
    · rw [decD_big h]
      intro b hb
      rcases List.mem_append.1 hb with h1 | h1
      · exact ih (n / 10) (by omega) b h1
      · rw [List.mem_singleton] at h1; subst h1
        unfold isDg
        rw [decide_eq_true_eq, UInt8.toNat_ofNat']; omega
theorem dvl_decD (n : Nat) : dvl (decD n) = n := by
  induction n using Nat.strongRecOn with
  | ind n ih =>
    by_cases h : n < 10
    · rw [decD_small h, dvl_cons]
      show (UInt8.ofNat (48 + n)).toNat - 48 = n
      rw [UInt8.toNat_ofNat']; omega
    · rw [decD_big h]
      have h1 := ih (n / 10) (by omega)
      unfold dvl at h1 ⊢
      rw [dvA_app, h1, dvA_cons]
      show n / 10 * 10 + ((UInt8.ofNat (48 + n % 10)).toNat - 48) = n
      rw [UInt8.toNat_ofNat']; omega
theorem decD_head (n : Nat) (h : 0 < n) : ∃ b r, decD n = b :: r ∧ b ≠ 48 := by
  cases hd : decD n with
  | nil => exact absurd hd (decD_ne n)
  | cons b r =>
    refine ⟨b, r, rfl, fun h48 => ?_⟩
    have h1 := decD_ge n h
    have h2 := dvl_decD n
    have h3 := decD_dg n
    rw [hd] at h1 h2 h3
    rw [dvl_cons, h48, show (48 : UInt8).toNat - 48 = 0 from rfl] at h2
    have h4 := dvl_lt r h3.tail
    rw [List.length_cons, Nat.add_sub_cancel] at h1
    have h5 : dvl r = n := h2
    omega
/-- without noughts at its end a number's digits: their number, their head -/
theorem stp_decD (n : Nat) (h : 0 < n) : dvl (stp (decD n)) * 10 ^ ((decD n).length - (stp (decD n)).length) = n ∧ 1 ≤ (stp (decD n)).length ∧ (stp (decD n)).length ≤ (decD n).length ∧ AllDg (stp (decD n)) ∧ (stp (decD n)).dropWhile (fun b => b == 48) = stp (decD n) := by
  obtain ⟨b, r, h1, h2⟩ := decD_head n h
  obtain ⟨q, h3⟩ := stp_head h1 h2
  obtain ⟨h4, h5⟩ := stp_val _ (decD n) rfl
  rw [dvl_decD] at h4
  refine ⟨h4, by rw [h3]; simp, h5, stp_dg (decD_dg n), ?_⟩
  rw [h3, List.dropWhile_cons, if_neg (by simpa using h2)]
/-- the digits of a number below, with k + 1 digits; what is left; both over one number -/
def shA (D : Dy) (k : Nat) (pd : Int) : Nat := dA D * tnN ((k : Int) - pd)
def shB (D : Dy) (k : Nat) (pd : Int) : Nat := dB D * tnN (-((k : Int) - pd))
def shL (D : Dy) (k : Nat) (pd : Int) : Nat := shA D k pd / shB D k pd
def shR (D : Dy) (k : Nat) (pd : Int) : Nat := shA D k pd % shB D k pd
theorem shB_pos (D : Dy) (k : Nat) (pd : Int) : 0 < shB D k pd := Nat.mul_pos (dB_pos D) (tnN_pos _)
/-- whether the upper one is taken -/
def shU (D : Dy) (E f k : Nat) (pd : Int) : Bool :=
  decide (shR D k pd ≠ 0) && fitP E f (shL D k pd + 1) (pd - k) && !(fitP E f (shL D k pd) (pd - k) && (decide (2 * shR D k pd < shB D k pd) || (decide (2 * shR D k pd = shB D k pd) && decide (shL D k pd % 2 = 0))))
def shZ (D : Dy) (E f k : Nat) (pd : Int) : Nat := if shU D E f k pd = true then shL D k pd + 1 else shL D k pd
/-- whether one of both is read as the number -/
def shS (D : Dy) (E f k : Nat) (pd : Int) : Bool := fitP E f (shL D k pd) (pd - k) || fitP E f (shL D k pd + 1) (pd - k)
/-- a value is its rank's -/
def IsVal (D : Dy) (E f : Nat) : Prop := dA D * 2 ^ 1074 = lmM E f * 2 ^ lmH E * dB D
theorem p1074 : ∃ P : Nat, 0 < P ∧ P = 2 ^ 1074 := ⟨_, Nat.two_pow_pos 1074, rfl⟩
theorem sh_half (D : Dy) (E f k : Nat) (pd : Int) (hv : IsVal D E f) (hf : f < 4503599627370496) :
    cmpT (2 * shL D k pd + 1) (pd - k) (4 * lmM E f) (lmX E + 1) = -cmpI ((2 * shR D k pd : Nat) : Int) ((shB D k pd : Nat) : Int) := by
  obtain ⟨x, hx⟩ : ∃ x : Int, x = (k : Int) - pd := ⟨_, rfl⟩
  have e0 : pd - k = -x := by omega
  obtain ⟨T, hT⟩ : ∃ T, T = tnN (-x) := ⟨_, rfl⟩
  obtain ⟨B, hB⟩ : ∃ B, B = tnN x := ⟨_, rfl⟩
  have hTp : 0 < T := by rw [hT]; exact tnN_pos _
  have hBp : 0 < B := by rw [hB]; exact tnN_pos _
  have hbp := dB_pos D
  have h1 := cmpT_at (2 * shL D k pd + 1) (pd - k) (4 * lmM E f) (lmH E + 1) (4 * (lmM E f * 2 ^ lmH E)) ((2 * shL D k pd + 1) * T) B (by rw [hT, e0]; rfl) (by rw [hB, e0, Int.neg_neg]; rfl) (by
    rw [Nat.pow_succ]
    generalize 2 ^ lmH E = Q
    rw [Nat.mul_assoc 4, ← Nat.mul_assoc (lmM E f) Q 2]; omega)
  rw [show lmX E + 1 = ((lmH E + 1 : Nat) : Int) - 1076 by unfold lmX; omega, h1]
  refine congrArg (fun z : Int => -z) ?_
  have hL : shB D k pd * shL D k pd + shR D k pd = shA D k pd := Nat.div_add_mod _ _
  have hBv : shB D k pd = dB D * T := by unfold shB; rw [hT, hx]
  have hAv : shA D k pd = dA D * B := by unfold shA; rw [hB, hx]
  unfold IsVal at hv
  generalize shL D k pd = L at *
  generalize shR D k pd = R at *
  rw [hBv] at hL ⊢
  rw [hAv] at hL
  generalize lmM E f * 2 ^ lmH E = V at *
  obtain ⟨P, hKp, hP⟩ := p1074
  rw [← hP] at hv ⊢
  clear hP h1 e0
  generalize dA D = a at *
  generalize dB D = b at *
  rw [← cmpI_nat_scale (4 * V * B) (2 * ((2 * L + 1) * T * P)) b hbp]
  have e1 : 4 * V * B * b = 4 * (b * T * L + R) * P := by
    rw [hL]
    have : V * b * B = a * P * B := by rw [hv]
    have h2 : 4 * V * B * b = 4 * (V * b * B) := by simp only [Nat.mul_assoc, Nat.mul_left_comm, Nat.mul_comm]
    have h3 : 4 * (a * B) * P = 4 * (a * P * B) := by simp only [Nat.mul_assoc, Nat.mul_left_comm, Nat.mul_comm]
    rw [h2, h3, this]
  have e2 : 2 * ((2 * L + 1) * T * P) * b = 2 * (2 * (b * T * L) + b * T) * P := by
    have h2 : 2 * ((2 * L + 1) * T * P) * b = 2 * ((2 * L + 1) * (b * T)) * P := by simp only [Nat.mul_assoc, Nat.mul_left_comm, Nat.mul_comm]
    rw [h2, Nat.add_mul, Nat.one_mul, Nat.mul_assoc 2 L, Nat.mul_comm L]
  rw [e1, e2, cmpI_nat_scale _ _ P hKp]
  have e3 : 4 * (b * T * L + R) = 2 * (2 * (b * T * L)) + 2 * (2 * R) := by omega
  have e4 : 2 * (2 * (b * T * L) + b * T) = 2 * (2 * (b * T * L)) + 2 * (b * T) := by omega
  rw [e3, e4]
  unfold cmpI
  generalize b * T * L = q
  by_cases h5 : 2 * R < b * T
  · rw [if_pos (by omega), if_pos (by omega)]
  · by_cases h6 : b * T < 2 * R
    · rw [if_neg (by omega), if_pos (by omega), if_neg (by omega), if_pos (by omega)]
    · rw [if_neg (by omega), if_neg (by omega), if_neg (by omega), if_neg (by omega)]
/-- what is just the number is read as it -/
theorem sh_exact (D : Dy) (E f k : Nat) (pd : Int) (hv : IsVal D E f) (hf : f < 4503599627370496) (hr : 1 ≤ E * 4503599627370496 + f) (h0 : shR D k pd = 0) : fitP E f (shL D k pd) (pd - k) = true := by
  rw [fitP_iff E f _ _ hf hr]
  obtain ⟨r, hr2⟩ : ∃ r, r = E * 4503599627370496 + f := ⟨_, rfl⟩
  have hrv : rvi r = lmM E f * 2 ^ lmH E := by rw [hr2]; exact (rvi_lm E f hf).1
  obtain ⟨x, hx⟩ : ∃ x : Int, x = (k : Int) - pd := ⟨_, rfl⟩
  have e0 : pd - k = -x := by omega
  have hA2 : 10 ^ (pd - k).toNat = tnN (-x) := by rw [e0]; rfl
  have hB2 : 10 ^ (-(pd - k)).toNat = tnN x := by rw [e0, Int.neg_neg]; rfl
  rw [hA2, hB2, ← hr2]
  have hTp := tnN_pos (-x)
  have hBp := tnN_pos x
  have hbp := dB_pos D
  have hL : shB D k pd * shL D k pd + shR D k pd = shA D k pd := Nat.div_add_mod _ _
  rw [h0, Nat.add_zero] at hL
  have hBv : shB D k pd = dB D * tnN (-x) := by unfold shB; rw [hx]
  have hAv : shA D k pd = dA D * tnN x := by unfold shA; rw [hx]
  rw [hBv, hAv] at hL
  unfold IsVal at hv
  rw [← hrv] at hv
  generalize shL D k pd = L at *
  generalize tnN (-x) = T at *
  generalize tnN x = B at *
  generalize dA D = a at *
  generalize dB D = b at *
  have key : L * T * 2 ^ 1074 = rvi r * B := by
    obtain ⟨P, hKp, hP⟩ := p1074
    rw [← hP] at hv ⊢
    apply Nat.eq_of_mul_eq_mul_right hbp
    have h1 : L * T * P * b = b * T * L * P := by simp only [Nat.mul_assoc, Nat.mul_left_comm, Nat.mul_comm]
    have h2 : rvi r * B * b = rvi r * b * B := by rw [Nat.mul_right_comm]
    rw [h1, hL, h2, ← hv, Nat.mul_right_comm]
  have g1 := rdM_nat 1074 (L * T) B (r - 1)
  have g2 := rdM_nat 1074 (L * T) B r
  rw [show ((r - 1 : Nat) : Int) = (r : Int) - 1 by omega, show r - 1 + 1 = r by omega] at g1
  rw [key] at g1 g2
  have m1 : rvi (r - 1) * B < rvi r * B := Nat.mul_lt_mul_of_pos_right (rvi_mono (by omega)) hBp
  have m2 : rvi r * B < rvi (r + 1) * B := Nat.mul_lt_mul_of_pos_right (rvi_mono (by omega)) hBp
  unfold fitR
  rw [g1, g2]
  left
  exact ⟨(cmpI_ng _ _).2 (by omega), (cmpI_ps _ _).2 (by omega)⟩
/-- what the program takes -/
theorem sh_prog (D : Dy) (E f k : Nat) (pd : Int) (hv : IsVal D E f) (hf : f < 4503599627370496) (hr : 1 ≤ E * 4503599627370496 + f) (a c : Bool) (ha : a = fitP E f (shL D k pd) (pd - k)) (hc : c = fitP E f (shL D k pd + 1) (pd - k)) (half : Int) (hh : half = cmpT (2 * shL D k pd + 1) (pd - k) (4 * lmM E f) (lmX E + 1)) :
    (if (a && c) = true then (decide (half < 0) || (decide (half = 0) && decide (shL D k pd % 2 = 1))) else if a = true then false else c) = shU D E f k pd := by
  rw [sh_half D E f k pd hv hf] at hh
  have hx := sh_exact D E f k pd hv hf hr
  rw [← ha] at hx
  unfold shU
  rw [← ha, ← hc]
  have hB := shB_pos D k pd
  generalize shL D k pd = L at *
  generalize shR D k pd = R at *
  generalize shB D k pd = B at *
  have c1 := cmpI_ps ((2 * R : Nat) : Int) ((B : Nat) : Int)
  have c2 := cmpI_eq_zero ((2 * R : Nat) : Int) ((B : Nat) : Int)
  have h1 : (half < 0) ↔ B < 2 * R := by rw [hh]; omega
  have h2 : (half = 0) ↔ 2 * R = B := by rw [hh]; omega
  by_cases h0 : R = 0
  · have := hx h0
    subst this
    rw [Bool.eq_iff_iff]
    cases c <;> simp [h0, h1, h2] <;> omega
  · rw [Bool.eq_iff_iff]
    cases a <;> cases c <;> simp [h0, h1, h2] <;> omega
theorem sh_some (D : Dy) (E f k : Nat) (pd : Int) (hv : IsVal D E f) (hf : f < 4503599627370496) (hr : 1 ≤ E * 4503599627370496 + f) (h0 : shR D k pd = 0) : shS D E f k pd = true := by
  unfold shS; rw [sh_exact D E f k pd hv hf hr h0]; rfl
/-- enough digits tell it all -/
theorem sh_ends (D : Dy) (k : Nat) (pd : Int) (hD : -1074 ≤ D.2) (hk : pd + 1074 ≤ (k : Int)) : shR D k pd = 0 := by
  unfold shR shA shB
  apply Nat.mod_eq_zero_of_dvd
  obtain ⟨x, hx⟩ : ∃ x : Nat, (x : Int) = (k : Int) - pd := ⟨((k : Int) - pd).toNat, by omega⟩
  rw [← hx]
  unfold tnN dB
  rw [show (-(x : Int)).toNat = 0 by omega, Int.toNat_natCast, Nat.pow_zero, Nat.mul_one]
  refine Nat.dvd_mul_left_of_dvd ?_ _
  have h10 : (10 : Nat) ^ x = 5 ^ x * 2 ^ x := by rw [← Nat.mul_pow]
  rw [h10]
  exact Nat.dvd_mul_left_of_dvd (Nat.pow_dvd_pow 2 (by omega)) _
end Go.Ulp

namespace Go.Proofs
open Go.Shelf
def Tryz.lays162_ren : Go.Shelf.Ren := ⟨fun | 162 => 60 | 232 => 90 | 227 => 79 | 234 => 91 | 236 => 92 | 228 => 106 | 271 => 110 | 151 => 108 | 120 => 123 | 197 => 107 | 152 => 120 | 260 => 119 | 137 => 130 | 119 => 131 | 224 => 132 | 225 => 133 | 217 => 139 | 266 => 141 | n => n, fun | 9 => 9 | 4 => 4 | 3 => 3 | 5 => 5 | 117 => 116 | 116 => 115 | 0 => 0 | 124 => 119 | 21 => 21 | 105 => 144 | 46 => 38 | 119 => 168 | 139 => 171 | 138 => 170 | n => n, fun | 3 => 4 | 4 => 5 | n => n⟩
theorem Tryz.lays162 : Go.Proofs.Lays.n162 Tryz.prog Tryz.lays162_ren := {
  mixed := by kernel_rfl
  f119 := Tryz.func131.trans (congrArg some (by kernel_rfl))
  f120 := Tryz.func123.trans (congrArg some (by kernel_rfl))
  f137 := Tryz.func130.trans (congrArg some (by kernel_rfl))
  f151 := Tryz.func108.trans (congrArg some (by kernel_rfl))
  f152 := Tryz.func120.trans (congrArg some (by kernel_rfl))
  f162 := Tryz.func60.trans (congrArg some (by kernel_rfl))
  f197 := Tryz.func107.trans (congrArg some (by kernel_rfl))
  f217 := Tryz.func139.trans (congrArg some (by kernel_rfl))
  f224 := Tryz.func132.trans (congrArg some (by kernel_rfl))
  f225 := Tryz.func133.trans (congrArg some (by kernel_rfl))
  f227 := Tryz.func79.trans (congrArg some (by kernel_rfl))
  f228 := Tryz.func106.trans (congrArg some (by kernel_rfl))
  f232 := Tryz.func90.trans (congrArg some (by kernel_rfl))
  f234 := Tryz.func91.trans (congrArg some (by kernel_rfl))
  f236 := Tryz.func92.trans (congrArg some (by kernel_rfl))
  f260 := Tryz.func119.trans (congrArg some (by kernel_rfl))
  f266 := Tryz.func141.trans (congrArg some (by kernel_rfl))
  f271 := Tryz.func110.trans (congrArg some (by kernel_rfl))
  t0 := Tryz.underlying0
  a0 := Tryz.isAgg0
  z0 := Tryz.sizeOf0
  v0 := Tryz.zeroValue0
  t3 := Tryz.underlying3
  a3 := Tryz.isAgg3
  z3 := Tryz.sizeOf3
  v3 := Tryz.zeroValue3
  t4 := Tryz.underlying4
  a4 := Tryz.isAgg4
  z4 := Tryz.sizeOf4
  v4 := Tryz.zeroValue4
  t5 := Tryz.underlying5
  a5 := Tryz.isAgg5
  z5 := Tryz.sizeOf5
  v5 := Tryz.zeroValue5
  t9 := Tryz.underlying9
  a9 := Tryz.isAgg9
  z9 := Tryz.sizeOf9
  v9 := Tryz.zeroValue9
  t21 := Tryz.underlying21
  a21 := Tryz.isAgg21
  z21 := Tryz.sizeOf21
  v21 := Tryz.zeroValue21
  t46 := Tryz.underlying38
  a46 := Tryz.isAgg38
  z46 := Tryz.sizeOf38
  v46 := Tryz.zeroValue38
  t105 := Tryz.underlying144
  a105 := Tryz.isAgg144
  z105 := Tryz.sizeOf144
  v105 := Tryz.zeroValue144
  t116 := Tryz.underlying115
  a116 := Tryz.isAgg115
  z116 := Tryz.sizeOf115
  t117 := Tryz.underlying116
  a117 := Tryz.isAgg116
  z117 := Tryz.sizeOf116
  v117 := Tryz.zeroValue116
  t119 := Tryz.underlying168
  a119 := Tryz.isAgg168
  z119 := Tryz.sizeOf168
  t124 := Tryz.underlying119
  a124 := Tryz.isAgg119
  z124 := Tryz.sizeOf119
  v124 := Tryz.zeroValue119
  t138 := Tryz.underlying170
  a138 := Tryz.isAgg170
  z138 := Tryz.sizeOf170
  v138 := Tryz.zeroValue170
  t139 := Tryz.underlying171
  a139 := Tryz.isAgg171
  z139 := Tryz.sizeOf171
  v139 := Tryz.zeroValue171
  g3 := by kernel_rfl
  g4 := by kernel_rfl }
open Go.RowKit in
/-- strings.TrimRight: "TrimRight returns a slice of the string s, with all trailing Unicode code points contained in cutset removed.": AT A cutset OF ONE ASCII BYTE. The world is as it was. (LAID: no walk: one application.) -/
theorem Tryz.strings_TrimRight_one (s : ByteArray) (c : UInt8) (hc : c.toNat < 128) (w : World) (hs : s.size ≤ 9223372036854775807) :
    Calls Tryz.prog 60 #[.string s, .string ⟨#[c]⟩] w fun e w' => e = .returned (.string ⟨(Lib.trimRightB s.data.toList c).toArray⟩) ∧ w' = w := Any.strings_TrimRight_one Tryz.lays162 s c hc w hs
end Go.Proofs

