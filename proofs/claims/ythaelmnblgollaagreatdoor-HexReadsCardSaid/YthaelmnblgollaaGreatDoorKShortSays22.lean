/- ShortSays: what the proof leans on, part 22 (Re13 Sy0 Tx6). -/
import Derived.Test.YthaelmnblgollaaGreatDoorKShortSays17
import Derived.Test.YthaelmnblgollaaGreatDoorKShortSays18
import Derived.Test.YthaelmnblgollaaGreatDoorKShortSays19
import Derived.Test.YthaelmnblgollaaGreatDoorKShortSays21
set_option linter.unusedVariables false
set_option linter.unusedSimpArgs false
namespace Go.Ulp
open Go.RowKit
/-- what the reference's ReadBits leaves -/
def RetRB (neg : Bool) (A B : Nat) (mode : Int) (w : World) (e : Ending) (w' : World) : Prop :=
  ∃ l : Int, 0 ≤ l ∧ l < 9218868437227405312 ∧ rdC 1074 A B l ≤ 0 ∧ (l + 1 = 9218868437227405312 ∨ 0 < rdC 1074 A B (l + 1)) ∧
    e = .returned (.tuple #[.int .u64 ((rdA 1074 A B (if neg = true then swM mode else mode) l).1 + sgb neg), .bool (rdA 1074 A B (if neg = true then swM mode else mode) l).2]) ∧ Below w.heap.size w w'
theorem rkD_mid (l : Int) : shD (addD (rkD l) (rkD (l + 1))) (-1) = nrm (rvs l + rvs (l + 1)) (-((1075 : Nat) : Int)) := by
  unfold rkD
  rw [← nrm_add (rvs l) (-1074) (rvs (l + 1)) (-1074) (-1074) (.inl (Int.le_refl _)) (.inl (Int.le_refl _)), sc_self, sc_self, ← nrm_shift]
  rfl
theorem rdM_midK (K A B : Nat) (l : Int) : cmpI ((rvs l + rvs (l + 1)) * (B : Int)) ((A : Int) * pw (K + 1)) = rdM K A B l := by
  unfold rdM
  rw [pw_add, show pw 1 = 2 by decide]
  generalize pw K = P
  rw [← Int.mul_assoc, Int.mul_comm _ 2]
theorem rdM_mid (A B : Nat) (l : Int) : cmpI ((rvs l + rvs (l + 1)) * (B : Int)) ((A : Int) * pw 1075) = rdM 1074 A B l := rdM_midK 1074 A B l
theorem rdC_zero (K A B : Nat) : rdC K A B 0 ≤ 0 := by
  unfold rdC
  have h0 : rvs 0 = 0 := by rw [show (0 : Int) = ((0 : Nat) : Int) from rfl, rvs_nat9, rvi_zero]
  rw [h0, Int.zero_mul]
  have h1 : 0 ≤ (A : Int) * pw K := Int.mul_nonneg (by omega) (Int.le_of_lt (pw_pos K))
  generalize (A : Int) * pw K = q at *
  unfold cmpI
  split
  · omega
  · split <;> omega
/-- whether it is rounded up -/
def rbU (neg : Bool) (mode near l : Int) : Bool := (decide (mode = 1) && !neg) || (decide (mode = 2) && neg) || (decide (mode = 0) && (decide (0 < near) || (decide (near = 0) && decide (l % 2 = 1)))) || (decide (mode = 4) && decide (0 ≤ near))
theorem rbU_eq (neg : Bool) (A B : Nat) (mode l : Int) (m0 : 0 ≤ mode) (m1 : mode ≤ 4) : rbU neg mode (-rdM 1074 A B l) l = rdU 1074 A B (if neg = true then swM mode else mode) l := by
  unfold rbU rdU swM
  generalize rdM 1074 A B l = M
  have : mode = 0 ∨ mode = 1 ∨ mode = 2 ∨ mode = 3 ∨ mode = 4 := by omega
  rw [Bool.eq_iff_iff]
  rcases this with h | h | h | h | h <;> subst h <;> cases neg <;> simp <;> omega
theorem rdA_up (K A B : Nat) (mode l : Int) (h : rdC K A B l ≠ 0) (u : Bool) (hu : rdU K A B mode l = u) : rdA K A B mode l = (if u = true then l + 1 else l, true) := by
  unfold rdA; rw [if_neg h, hu]; cases u <;> rfl
end Go.Ulp
namespace Go.Proofs.YthaelmnblgollaaGreatDoor
open Go.RowKit Go.Ulp
set_option linter.unusedVariables false
set_option linter.unusedSimpArgs false
set_option maxHeartbeats 2000000
set_option maxRecDepth 100000
theorem zl_ten_le {x E : Nat} (h : x ≤ 10 ^ E) : (zl (x : Int)).length ≤ E + 1 :=
  Nat.le_trans (zl_len_le (x := ((x : Nat) : Int)) (y := tenZ E) (by unfold tenZ; rw [Int.natAbs_natCast, Int.natAbs_natCast]; exact h)) (zl_len_ten E)

theorem readBits_any (neg : Bool) (L : List UInt8) (k mode : Int) (w : World) (hL : AllDg L) (h1 : 1 ≤ L.length) (hl : L.length ≤ 2000) (hk : -1000000000 ≤ k ∧ k ≤ 1000000000) (m0 : 0 ≤ mode) (m1 : mode ≤ 4) :
    Calls Tryz.prog 44 #[.bool neg, .string (bsOf L), .int .i64 k, .int .i64 mode] w (RetRB neg (rdNum (dvl L) L.length k) (rdDen L.length k) mode w) := by
  have hne : ((bsOf L).toList == []) = false := by
    rw [bs_toList]; exact beq_eq_false_iff_ne.2 (fun h => by rw [h] at h1; exact absurd h1 (by decide))
  have hsz := bs_size L
  obtain ⟨K, hK⟩ : ∃ K, K = rkc L.length k := ⟨_, rfl⟩
  have hK1 : -4500 ≤ K ∧ K ≤ 2500 := by rw [hK]; unfold rkc; omega
  have wk : IntKind.i64.wrap (-2500 - (L.length : Int)) = -2500 - (L.length : Int) := IntWalk.i64_in _ (by omega)
  have HKK := hid (show min (max k (-2500 - (L.length : Int))) 2500 = K by rw [hK]; rfl)
  have ZG := hid (fun w => zDigits_any L w hL hl)
  obtain ⟨V, hV⟩ : ∃ V, V = dvl L := ⟨_, rfl⟩
  obtain ⟨E, hE⟩ : ∃ E : Nat, E = 2000 := ⟨_, rfl⟩
  have hVb : V ≤ 10 ^ E := by
    have h9 := dvl_lt L hL
    have h8 : 10 ^ L.length ≤ 10 ^ E := Nat.pow_le_pow_right (by omega) (by omega)
    omega
  have lV := zl_ten_le hVb
  have hmf : ∀ fn first cap w, (Instr.makeFunc fn first cap).run Tryz.prog w = .ok (.func fn first cap) w := fun _ _ _ _ => rfl
  obtain ⟨A, hA⟩ : ∃ A, A = rdNum V L.length k := ⟨_, rfl⟩
  obtain ⟨B, hB⟩ : ∃ B, B = rdDen L.length k := ⟨_, rfl⟩
  rw [← hV, ← hA, ← hB]
  rw [← hV] at ZG
  have hA2 : (A : Int) = (V : Int) * tenZ K.toNat := by rw [hA, hK]; unfold rdNum tenZ; rw [Int.natCast_mul]
  have hB2 : (B : Int) = tenZ (-K).toNat := by rw [hB, hK]; rfl
  have lA : (zl (A : Int)).length ≤ 10000 := by
    obtain ⟨F, hF⟩ : ∃ F : Nat, F = 2500 := ⟨_, rfl⟩
    have : A ≤ 10 ^ (E + F) := by
      rw [hA]; unfold rdNum
      rw [Nat.pow_add]
      exact Nat.mul_le_mul hVb (Nat.pow_le_pow_right (by omega) (by omega))
    exact Nat.le_trans (zl_ten_le this) (by omega)
  have lB : (zl (B : Int)).length ≤ 10000 := by
    obtain ⟨F, hF⟩ : ∃ F : Nat, F = 4500 := ⟨_, rfl⟩
    have : B ≤ 10 ^ F := by
      rw [hB]; unfold rdDen
      exact Nat.pow_le_pow_right (by omega) (by omega)
    exact Nat.le_trans (zl_ten_le this) (by omega)
  have HA2 := hid hA2
  have HB2 := hid hB2
  clear hA hB hA2 hB2 hV hVb hK
  go_enter Tryz.func44, Tryz.ntmps44
  go_upto_region 4 with fail
  rw [HKK.out]
  go_upto_region 5 with (go_at_call 111; (with_reducible refine (ZG.out _).mono ?_); rintro en w1 ⟨v1, rfl, ⟨a1, c1, rfl, n1⟩, hb1⟩)
  have zz := zv_made (tz := 39) n1 w1.heap.size rfl
  refine wp_worldZ (fun WW => Below w.heap.size w WW ∧ ZV 39 3 WW w1.heap.size (V : Int)) ⟨below_trans hb1 (below_alloc _ _), zz⟩ ?_
  intro W1 ⟨y1, z1⟩
  obtain ⟨g10, hg10⟩ : ∃ g, g = w1.heap.size := ⟨_, rfl⟩
  rw [← hg10] at z1 ⊢
  clear hg10 zz n1 hb1 HKK ZG wk hne
  refine wp_region_growF 4 [31, 32, 11, 12] [Fact.z 3 ((V : Int)), Fact.z 3 (1), Fact.z0 W1.heap.size 39, Fact.z0 W1.heap.size 39] [2, 3] (by kernel_rfl) (by kernel_rfl) ⟨?o0, ?o1, ?o2, ?o3, trivial⟩ ?after
  case o0 => (refine StepOKF.plain rfl ?_; intro ρ w1 R hρ hb hp hR; have e10 : ρ (.tmp 10) = .pointer (some ⟨g10, 0, none⟩) := hρ.tmp 10 rfl; obtain ⟨ya9, yc9, yj9, yn9⟩ := ZV.below z1 hb; obtain ⟨j90, j91, -⟩ := yj9; replace hR := fun v w2 h1 h2 => hR v w2 h1 h2 (fun h => absurd h (by decide)); have hcon := hρ.con; have hfn := hρ.fn; clear hρ hp; unfold OpRun; go_simp; exact hR _ _ (Below.refl _ _) ⟨ya9, yc9, rfl, yn9⟩)
  case o1 => (refine StepOKF.plain rfl ?_; intro ρ w1 R hρ hb hp hR; replace hR := fun v w2 h1 h2 => hR v w2 h1 h2 (fun h => absurd h (by decide)); have hcon := hρ.con; have hfn := hρ.fn; clear hρ hp; unfold OpRun; go_simp; (refine (zND _ (by omega) (by omega) _).mono ?_; rintro e wn ⟨v9, rfl, hz9, hbn⟩; exact ⟨_, rfl, hR _ _ hbn hz9⟩))
  case o2 => (refine StepOKF.plain rfl ?_; intro ρ w1 R hρ hb hp hR; have hcon := hρ.con; have hfn := hρ.fn; clear hρ hp; unfold OpRun; go_simp; exact hR _ _ (below_alloc _ _) ⟨_, rfl, hb.size, ZL.made rfl⟩ (fun _ => ⟨_, rfl, Nat.le_refl _, by simp⟩))
  case o3 => (refine StepOKF.plain rfl ?_; intro ρ w1 R hρ hb hp hR; have hcon := hρ.con; have hfn := hρ.fn; clear hρ hp; unfold OpRun; go_simp; exact hR _ _ (below_alloc _ _) ⟨_, rfl, hb.size, ZL.made rfl⟩ (fun _ => ⟨_, rfl, Nat.le_refl _, by simp⟩))
  case after =>
    intro u wn hb hf hd
    have f31 := hf 0 31 (by omega) rfl
    have f32 := hf 1 32 (by omega) rfl
    have f11 := hf 2 11 (by omega) rfl
    have f12 := hf 3 12 (by omega) rfl
    have d11_12 : u 11 ≠ u 12 := hd 2 3 11 12 (by omega) (by omega) (by omega) rfl rfl rfl rfl
    clear hf hd
    simp only [putAll, Act.put, List.setIfInBounds_toArray, List.set_cons_zero, List.set_cons_succ, List.drop_succ_cons, List.drop_zero, List.drop_nil]
    obtain ⟨xa1, xc1, xe1, xn1⟩ := f31
    obtain ⟨xa2, xc2, xe2, xn2⟩ := f32
    obtain ⟨gv11, eg1, hg1, zz1⟩ := f11
    obtain ⟨gv12, eg2, hg2, zz2⟩ := f12
    have gne : gv11 ≠ gv12 := by intro h; apply d11_12; rw [eg1, eg2, h]
    rw [xe1, xe2, eg1, eg2]
    clear xe1 xe2 eg1 eg2 d11_12
    have zst := zv_store2 (by decide) hb hg1 hg2 gne zz1 zz2 xn1 xn2
    obtain ⟨k0, k1, kf0, kf1, -⟩ := id zz1
    obtain ⟨l0, l1, lf0, lf1, -⟩ := id zz2
    go_upto_region 6 with fail
    clear k0 k1 kf0 kf1 l0 l1 lf0 lf1 zz1 zz2 xn1 xn2 hb
    refine wp_worldZ (fun WW => Below _ _ WW ∧ ZV _ _ WW _ _ ∧ ZV _ _ WW _ _) zst ?_
    clear zst
    intro W2 ⟨y12, z11, z12⟩
    have y2 := below_trans y1 y12
    have s1 := y1.size
    have b11 : w.heap.size ≤ gv11 := by omega
    have b12 : w.heap.size ≤ gv12 := by omega
    clear z1 y1 y12 hg1 hg2 s1
    go_upto_if 34 with fail
    go_cut [] (fun wx => Below w.heap.size w wx ∧ ZV 39 3 wx gv11 (A : Int) ∧ ZV 39 3 wx gv12 (B : Int))
    case first => as_aux_lemma =>
      by_cases hk0 : 0 ≤ K
      · obtain ⟨p, rfl⟩ := Int.eq_ofNat_of_zero_le hk0
        have eB : (1 : Int) = (B : Int) := by rw [HB2.out, show (-(p : Int)).toNat = 0 by omega]; rfl
        have eA : (V : Int) * tenZ p = (A : Int) := by rw [HA2.out, Int.toNat_natCast]
        have lV2 : (zl (V : Int)).length ≤ 100000000 := by omega
        have lp := Nat.le_trans (zl_len_ten p) (show p + 1 ≤ 100000000 by omega)
        go_upto_region 7 with fail
        refine wp_region_grow 4 [35, 36, 37, 38] [Fact.z 3 ((V : Int)), Fact.is (.int .i64 (p : Int)), Fact.z 3 (tenZ p), Fact.z 3 (((V : Int)) * (tenZ p))] (by kernel_rfl) (by kernel_rfl) ⟨?o0, ?o1, ?o2, ?o3, trivial⟩ ?after
        case o0 => (refine StepOK.plain rfl ?_; intro ρ w1 R hρ hb hp hR; have e11 : ρ (.tmp 11) = .pointer (some ⟨gv11, 0, none⟩) := hρ.tmp 11 rfl; obtain ⟨ya9, yc9, yj9, yn9⟩ := ZV.below z11 hb; obtain ⟨j90, j91, -⟩ := yj9; have hcon := hρ.con; have hfn := hρ.fn; clear hρ hp; unfold OpRun; go_simp; exact hR _ _ (Below.refl _ _) ⟨ya9, yc9, rfl, yn9⟩)
        case o1 => (refine StepOK.plain rfl ?_; intro ρ w1 R hρ hb hp hR; have e2 : ρ (.tmp 2) = .int .i64 (p : Int) := hρ.tmp 2 rfl; have hcon := hρ.con; have hfn := hρ.fn; clear hρ hp; unfold OpRun; go_simp; exact hR _ _ (Below.refl _ _) rfl)
        case o2 => (refine StepOK.plain rfl ?_; intro ρ w1 R hρ hb hp hR; have e36 : ρ (.tmp 36) = _ := hp 1 36 rfl rfl; have hcon := hρ.con; have hfn := hρ.fn; clear hρ hp; unfold OpRun; go_simp; (refine (zTenD p _ (by first | assumption | omega)).mono ?_; rintro e wn ⟨v9, rfl, hz9, hbn⟩; exact ⟨_, rfl, hR _ _ hbn hz9⟩))
        case o3 => (refine StepOK.plain rfl ?_; intro ρ w1 R hρ hb hp hR; have f35 := hp 0 35 rfl rfl; have f37 := hp 2 37 rfl rfl; have hcon := hρ.con; have hfn := hρ.fn; clear hρ hp; unfold OpRun; go_simp; (refine (zmulD _ _ _ _ _ f35 f37 (by first | assumption | omega) (by first | assumption | omega)).mono ?_; rintro e wn ⟨v9, rfl, hz9, hbn⟩; exact ⟨_, rfl, hR _ _ hbn hz9⟩))
        case after =>
          intro u wn hb hf
          have f38 := hf 3 38 (by omega) rfl
          clear hf
          simp only [putAll, Act.put, List.setIfInBounds_toArray, List.set_cons_zero, List.set_cons_succ, List.drop_succ_cons, List.drop_zero, List.drop_nil]
          obtain ⟨a6, c6, e38, n6⟩ := f38
          rw [e38]
          have yb := below_trans y2 hb
          have z12a := z12.below hb
          obtain ⟨a3, c3, zl3, n3⟩ := z11.below hb
          have zst := zv_store1 (by decide) yb b11 zl3 n6
          have z12b := z12a.set2 (zl3.2.2.2.2) (by decide) (Ne.symm gne) (.bool (zneg ((V : Int) * tenZ p))) (.slice a6 (zl ((V : Int) * tenZ p)).length c6)
          obtain ⟨k0, k1, kf0, kf1, -⟩ := id zl3
          have HZ := hid (And.intro zst z12b)
          have EA := hid eA
          have EB := hid eB
          clear zst z12b z12a n3 e38 eA eB
          go_wp2_with fail
          go_meet
          exact ⟨HZ.out.1.1, HZ.out.1.2.cast EA.out, HZ.out.2.cast EB.out⟩
      · obtain ⟨p, hp⟩ : ∃ p : Nat, K = -(p : Int) := ⟨(-K).toNat, by omega⟩
        subst hp
        have eB : tenZ p = (B : Int) := by rw [HB2.out, Int.neg_neg, Int.toNat_natCast]
        have eA : (V : Int) = (A : Int) := by rw [HA2.out, show (-(p : Int)).toNat = 0 by omega]; exact (Int.mul_one _).symm
        have ZP := hid (fun w => zTenD p w (by omega))
        have wp : IntKind.i64.wrap (p : Int) = (p : Int) := IntWalk.i64_in _ (by omega)
        have hp2 : ¬ 0 ≤ -(p : Int) := hk0
        have HEA := hid eA
        have HEB := hid eB
        clear eA eB hk0
        go_upto_region 8 with fail
        go_wp2_with (go_at_call 113; (with_reducible refine (ZP.out _).mono ?_); rintro en w3 ⟨v3, rfl, ⟨a3, c3, rfl, n3⟩, hb3⟩; obtain ⟨a4, c4, zl4, n4⟩ := z12.below hb3; obtain ⟨k0, k1, kf0, kf1, -⟩ := id zl4; have HZ := hid (And.intro (zv_store1 (by decide) (below_trans y2 hb3) b12 zl4 n3) ((z11.below hb3).set2 (zl4.2.2.2.2) (by decide) gne (.bool (zneg (tenZ p))) (.slice a3 (zl (tenZ p)).length c3))))
        go_meet
        exact ⟨HZ.out.1.1, HZ.out.2.cast HEA.out, HZ.out.1.2.cast HEB.out⟩
    case rest =>
      obtain ⟨yb, zA, zB⟩ := hcut
      obtain ⟨W3, hW3⟩ : ∃ W, W = wc := ⟨_, rfl⟩
      subst hW3
      clear HA2 HB2 z11 z12 y2
      have RV := hid (fun r h0 h1 w => rankVal_any r h0 h1 w)
      have RK := hid (fun r h0 h1 w => ranked_any r h0 h1 w)
      have CM := hid (fun v r w hq zb za => rbCmp_any v (rkD r) 1200 1100 (rvs r) (A : Int) (B : Int) 1074 gv11 gv12 w hq rfl (by omega) (by omega) zb za (by omega) (by omega))
      have QA := hid (fun v u r s w h1 h2 => qadd_any v u (rkD r) (rkD s) 1200 1100 1200 1100 w h1 h2 (by omega) (by omega) (by omega) (by omega))
      obtain ⟨c, hc⟩ : ∃ c, c = fun r => rdC 1074 A B r := ⟨_, rfl⟩
      have HC := hid (fun r => (show c r = rdC 1074 A B r by rw [hc]))
      have hc0 : c 0 ≤ 0 := by rw [hc]; exact rdC_zero 1074 A B
      clear hc
      go_upto_block 0 with fail
      go_cut [14, 15, 16] (fun s14 s15 s16 wx => ∃ l : Int, s14 = .int .i64 l ∧ 0 ≤ l ∧ l < 9218868437227405312 ∧ c l ≤ 0 ∧ (l + 1 = 9218868437227405312 ∨ 0 < c (l + 1)) ∧ Below W3.heap.size W3 wx)
      case first => as_aux_lemma =>
        go_wp2_with fail
        go_loopw [14, 15, 16] (fun s14 s15 s16 wr => ∃ lo hi : Int, s14 = .int .i64 lo ∧ s15 = .int .i64 hi ∧ 0 ≤ lo ∧ lo < hi ∧ hi ≤ 9218868437227405312 ∧ c lo ≤ 0 ∧ (hi = 9218868437227405312 ∨ 0 < c hi) ∧ Below W3.heap.size W3 wr) (fun s14 s15 _ _ => (intOf s15 - intOf s14).toNat)
        case atStart => exact ⟨0, _, rfl, rfl, by omega, by omega, by omega, hc0, .inl rfl, Below.refl _ _⟩
        case round =>
          obtain ⟨lo, hi, rfl, rfl, b1, b2, b3, hlo, hhi, hb⟩ := hrel
          have HLO := hid hlo
          have HHI := hid hhi
          clear hlo hhi hc0
          have w0 : IntKind.i64.wrap (hi - lo) = hi - lo := IntWalk.i64_in _ (by omega)
          by_cases hlt : 1 < hi - lo
          · obtain ⟨td, tc, e1, e2, e3, e4, e5⟩ := tdiv2 (hi - lo)
            have w1 : IntKind.i64.wrap td = td := IntWalk.i64_in _ (by omega)
            obtain ⟨m, hm⟩ : ∃ m, m = lo + td := ⟨_, rfl⟩
            have w2 : IntKind.i64.wrap m = m := IntWalk.i64_in _ (by omega)
            have em : lo + td = m := hm.symm
            have BND := hid (show lo < m ∧ m < hi by omega)
            have RVm := hid (fun w => RV.out m (by omega) (by omega) w)
            have CMm := hid (fun v w hq zb za => by
              have h := CM.out v m w hq zb za
              rwa [show cmpI (rvs m * (B : Int)) ((A : Int) * pw 1074) = c m from (HC.out m).symm] at h)
            obtain ⟨cm, hcm⟩ : ∃ x, x = c m := ⟨_, rfl⟩
            have HCM := hid hcm
            rw [← hcm] at CMm
            have HBS := hid (And.intro b1 b3)
            clear hm e3 e4 e5 hcm b1 b2 b3
            by_cases hs : cm ≤ 0
            · go_wp2_with (first
                | (go_at_call 115; (with_reducible refine (RVm.out _).mono ?_); rintro en w4 ⟨v4, rfl, hq4, hb4⟩)
                | (go_at_call 114; (with_reducible refine (CMm.out _ _ hq4 (zB.below (below_trans hb hb4)) (zA.below (below_trans hb hb4))).mono ?_); rintro en w5 ⟨rfl, hb5⟩))
              go_roundw
              case rel => exact ⟨m, hi, rfl, rfl, by have := BND.out; have := HBS.out; omega, by have := BND.out; omega, HBS.out.2, by rw [← HCM.out]; exact hs, HHI.out, below_trans (below_trans hb hb4) hb5⟩
              case measure => simp [intOf]; have := BND.out; omega
            · go_wp2_with (first
                | (go_at_call 115; (with_reducible refine (RVm.out _).mono ?_); rintro en w4 ⟨v4, rfl, hq4, hb4⟩)
                | (go_at_call 114; (with_reducible refine (CMm.out _ _ hq4 (zB.below (below_trans hb hb4)) (zA.below (below_trans hb hb4))).mono ?_); rintro en w5 ⟨rfl, hb5⟩))
              go_roundw
              case rel => exact ⟨lo, m, rfl, rfl, HBS.out.1, by have := BND.out; omega, by have := BND.out; have := HBS.out; omega, HLO.out, .inr (by rw [← HCM.out]; omega), below_trans (below_trans hb hb4) hb5⟩
              case measure => simp [intOf]; have := BND.out; omega
          · go_wp2_with fail
            go_meet
            exact ⟨lo, rfl, b1, by omega, HLO.out, by rw [show lo + 1 = hi by omega]; exact HHI.out, hb⟩
      case rest =>
        obtain ⟨l, rfl, l0, l1, l2, l3, yb4⟩ := hcut
        have HL := hid (And.intro l2 l3)
        clear l2 l3 hc0
        obtain ⟨W4, hW4⟩ : ∃ W, W = wc := ⟨_, rfl⟩
        subst hW4
        have yb5 := below_trans yb yb4
        replace zA := zA.below yb4
        replace zB := zB.below yb4
        clear yb yb4
        obtain ⟨mm, hmm⟩ : ∃ mm, mm = if neg = true then swM mode else mode := ⟨_, rfl⟩
        have HRT := hid (show ∀ (x : Int) (b : Bool) (e : Ending) (wz : World), rdA 1074 A B mm l = (x, b) → e = .returned (.tuple #[.int .u64 (x + sgb neg), .bool b]) → Below w.heap.size w wz → RetRB neg A B mode w e wz from fun x b e wz h1 h2 h3 => by
          refine ⟨l, l0, l1, ?_, ?_, ?_, h3⟩
          · rw [← HC.out]; exact HL.out.1
          · rw [← HC.out]; exact HL.out.2
          · rw [← hmm, h1]; exact h2)
        have HMM := hid hmm
        have RVl := hid (fun w => RV.out l (by omega) (by omega) w)
        have RVk := hid (fun w => RV.out (l + 1) (by omega) (by omega) w)
        have CMl := hid (fun v w hq zb za => by
          have h := CM.out v l w hq zb za
          rwa [show cmpI (rvs l * (B : Int)) ((A : Int) * pw 1074) = c l from (HC.out l).symm] at h)
        by_cases hz : c l = 0
        · have HAN := hid (show rdA 1074 A B mm l = (l, false) by unfold rdA; rw [← HC.out, if_pos hz])
          have RKl := hid (fun w => by have h := RK.out l (by omega) (by omega) w; rwa [ranked_pos l l0] at h)
          have SG := hid (fun w => rSigned_any l l0 (by omega) neg w)
          rw [hz] at CMl
          clear hz hmm
          go_wp2_with (first
            | (go_at_call 115; (with_reducible refine (RVl.out _).mono ?_); rintro en w4 ⟨v4, rfl, hq4, hb4⟩)
            | (go_at_call 114; (with_reducible refine (CMl.out _ _ hq4 (zB.below hb4) (zA.below hb4)).mono ?_); rintro en w5 ⟨rfl, hb5⟩)
            | (go_at_call 116; (with_reducible refine (RKl.out _).mono ?_); rintro en w6 ⟨rfl, rfl⟩)
            | (go_at_call 42; (with_reducible refine (SG.out _).mono ?_); rintro en w7 ⟨rfl, rfl⟩))
          go_ret2
          exact HRT.out _ _ _ _ HAN.out rfl (below_trans (below_trans yb5 hb4) hb5)
        · have HNZ := hid (show rdC 1074 A B l ≠ 0 by rw [← HC.out]; exact hz)
          have hz2 : (c l == 0) = false := beq_eq_false_iff_ne.2 hz
          generalize c l = cl at CMl hz2
          obtain ⟨md, hmd⟩ : ∃ m, m = rdM 1074 A B l := ⟨_, rfl⟩
          have hmb : -1 ≤ md ∧ md ≤ 1 := by
            rw [hmd]; unfold rdM cmpI
            split
            · omega
            · split <;> omega
          obtain ⟨near, hnr⟩ : ∃ n, n = -md := ⟨_, rfl⟩
          have wn9 : IntKind.i64.wrap (-md) = near := by rw [IntWalk.i64_in _ (by omega)]; exact hnr.symm
          have QAl := hid (fun v u w h1 h2 => QA.out v u l (l + 1) w h1 h2)
          obtain ⟨k9, hk9⟩ : ∃ k9 : Nat, k9 = 1075 := ⟨_, rfl⟩
          have hmid : shD (addD (rkD l) (rkD (l + 1))) (-1) = nrm (rvs l + rvs (l + 1)) (-(k9 : Int)) := by rw [hk9]; exact rkD_mid l
          have hmv : cmpI ((rvs l + rvs (l + 1)) * (B : Int)) ((A : Int) * pw k9) = md := by rw [hk9, hmd]; exact rdM_mid A B l
          obtain ⟨AA9, hAA9⟩ : ∃ a : Nat, a = max 1200 1200 + max 1100 1100 + 1 := ⟨_, rfl⟩
          obtain ⟨TT9, hTT9⟩ : ∃ a : Nat, a = max 1100 1100 := ⟨_, rfl⟩
          rw [← hAA9, ← hTT9] at QAl
          have QS := hid (fun v w h => qshift_any v (addD (rkD l) (rkD (l + 1))) AA9 TT9 (-1) w h (by omega) (by omega) (by omega) (by omega))
          obtain ⟨DM, hDM⟩ : ∃ D, D = shD (addD (rkD l) (rkD (l + 1))) (-1) := ⟨_, rfl⟩
          rw [← hDM] at QS hmid
          have CMd := hid (fun v w hq zb za => by
            have h := rbCmp_any v DM (AA9 + 400000) 400000 (rvs l + rvs (l + 1)) (A : Int) (B : Int) k9 gv11 gv12 w hq hmid (by omega) (by omega) zb za (by omega) (by omega)
            rwa [hmv] at h)
          clear hDM hmid hmv hk9 hAA9 hTT9
          obtain ⟨u, hu⟩ : ∃ u, u = rbU neg mode near l := ⟨_, rfl⟩
          have HAN := hid (show rdA 1074 A B mm l = (if u = true then l + 1 else l, true) from rdA_up _ _ _ _ _ HNZ.out u (by rw [HMM.out, hu, hnr, hmd]; exact (rbU_eq neg A B mode l m0 m1).symm))
          have HU := hid hu
          clear hz hmm hmd hnr hmb hu HNZ HMM HC HL RV QA CM
          have w1 : IntKind.i64.wrap (l + 1) = l + 1 := IntWalk.i64_in _ (by omega)
          generalize rkD l = K1 at *
          generalize rkD (l + 1) = K2 at *
          go_upto_if 64 with (first
            | (go_at_call 115; (with_reducible refine (RVl.out _).mono ?_); rintro en w4 ⟨v4, rfl, hq4, hb4⟩)
            | (go_at_call 114; (with_reducible refine (CMl.out _ _ hq4 (zB.below hb4) (zA.below hb4)).mono ?_); rintro en w5 ⟨rfl, hb5⟩))
          obtain ⟨W5, hW5⟩ : ∃ W, W = w5 := ⟨_, rfl⟩
          subst hW5
          have yb6 := below_trans (below_trans yb5 hb4) hb5
          have zB6 := (zB.below hb4).below hb5
          have zA6 := (zA.below hb4).below hb5
          clear zA zB hq4 hb4 hb5 yb5 CMl
          go_upto_region 19 with (first
            | (go_at_call 115; (first
                | ((with_reducible refine (RVl.out _).mono ?_); rintro en w6 ⟨v6, rfl, hq6, hb6⟩)
                | ((with_reducible refine (RVk.out _).mono ?_); rintro en w7 ⟨v7, rfl, hq7, hb7⟩)))
            | (go_at_call 76; (with_reducible refine (QAl.out _ _ _ (hq6.below hb7) hq7).mono ?_); rintro en w8 ⟨v8, rfl, hq8, hb8⟩)
            | (go_at_call 117; (with_reducible refine (QS.out _ _ hq8).mono ?_); rintro en w9 ⟨v9, rfl, hq9, hb9⟩; have yb9 := below_trans (below_trans (below_trans hb6 hb7) hb8) hb9)
            | (go_at_call 114; (with_reducible refine (CMd.out _ _ hq9 (zB6.below yb9) (zA6.below yb9)).mono ?_); rintro en wa ⟨rfl, hba⟩))
          obtain ⟨W6, hW6⟩ : ∃ W, W = wa := ⟨_, rfl⟩
          subst hW6
          have yba := below_trans (below_trans yb6 yb9) hba
          clear hq6 hb6 hq7 hb7 hq8 hb8 hq9 hb9 hba yb9 yb6 zB6 zA6 QAl QS CMd RVl RVk
          go_cut [18] (fun s18 wx => s18 = .bool u ∧ wx = W6)
          case first => as_aux_lemma =>
            have hmode : mode = 0 ∨ mode = 1 ∨ mode = 2 ∨ mode = 3 ∨ mode = 4 := by omega
            have H0 := HU.out
            clear HU HAN RK HRT yba
            rcases hmode with h | h | h | h | h <;> subst h
            · by_cases p1 : 0 < near
              · have H5 := hid (show u = true by rw [H0]; unfold rbU; simp [p1])
                clear H0
                go_wp2_with fail
                go_meet
                exact ⟨by rw [H5.out], rfl⟩
              · by_cases p2 : near = 0
                · have p3 : (near == 0) = true := beq_iff_eq.2 p2
                  obtain ⟨ta, tc, -, e2, e3, e4, e5⟩ := tdiv2 l
                  have e6 : 0 ≤ tc := by rw [← e2]; exact Int.tmod_nonneg _ l0
                  by_cases p4 : tc = 1
                  · have p5 : (tc == 1) = true := beq_iff_eq.2 p4
                    have H5 := hid (show u = true by rw [H0]; unfold rbU; simp [p2]; omega)
                    clear H0 p2 e3 e4 e5 e6 p4
                    go_wp2_with fail
                    go_meet
                    exact ⟨by rw [H5.out], rfl⟩
                  · have p5 : (tc == 1) = false := beq_eq_false_iff_ne.2 p4
                    have H5 := hid (show u = false by rw [H0]; unfold rbU; simp [p2]; omega)
                    clear H0 p2 e3 e4 e5 e6 p4
                    go_wp2_with fail
                    go_meet
                    exact ⟨by rw [H5.out], rfl⟩
                · have p3 : (near == 0) = false := beq_eq_false_iff_ne.2 p2
                  have H5 := hid (show u = false by rw [H0]; unfold rbU; simp [p1, p2])
                  clear H0 p2
                  go_wp2_with fail
                  go_meet
                  exact ⟨by rw [H5.out], rfl⟩
            · cases neg
              · have H5 := hid (show u = true by rw [H0]; unfold rbU; simp)
                clear H0
                go_wp2_with fail
                go_meet
                exact ⟨by rw [H5.out], rfl⟩
              · have H5 := hid (show u = false by rw [H0]; unfold rbU; simp)
                clear H0
                go_wp2_with fail
                go_meet
                exact ⟨by rw [H5.out], rfl⟩
            · cases neg
              · have H5 := hid (show u = false by rw [H0]; unfold rbU; simp)
                clear H0
                go_wp2_with fail
                go_meet
                exact ⟨by rw [H5.out], rfl⟩
              · have H5 := hid (show u = true by rw [H0]; unfold rbU; simp)
                clear H0
                go_wp2_with fail
                go_meet
                exact ⟨by rw [H5.out], rfl⟩
            · have H5 := hid (show u = false by rw [H0]; unfold rbU; simp)
              clear H0
              go_wp2_with fail
              go_meet
              exact ⟨by rw [H5.out], rfl⟩
            · by_cases p1 : 0 ≤ near
              · have H5 := hid (show u = true by rw [H0]; unfold rbU; simp [p1])
                clear H0
                go_wp2_with fail
                go_meet
                exact ⟨by rw [H5.out], rfl⟩
              · have H5 := hid (show u = false by rw [H0]; unfold rbU; simp [p1])
                clear H0
                go_wp2_with fail
                go_meet
                exact ⟨by rw [H5.out], rfl⟩
          case rest =>
            obtain ⟨rfl, rfl⟩ := hcut
            cases u
            · have RKl := hid (fun w => by have h := RK.out l (by omega) (by omega) w; rwa [ranked_pos l l0] at h)
              have SG := hid (fun w => rSigned_any l l0 (by omega) neg w)
              clear HU RK
              go_wp2_with (first
                | (go_at_call 116; (with_reducible refine (RKl.out _).mono ?_); rintro en wb ⟨rfl, rfl⟩)
                | (go_at_call 42; (with_reducible refine (SG.out _).mono ?_); rintro en wb ⟨rfl, rfl⟩))
              go_ret2
              exact HRT.out _ _ _ _ HAN.out rfl yba
            · have RKl := hid (fun w => by have h := RK.out (l + 1) (by omega) (by omega) w; rwa [ranked_pos (l + 1) (by omega)] at h)
              have SG := hid (fun w => rSigned_any (l + 1) (by omega) (by omega) neg w)
              clear HU RK
              go_wp2_with (first
                | (go_at_call 116; (with_reducible refine (RKl.out _).mono ?_); rintro en wb ⟨rfl, rfl⟩)
                | (go_at_call 42; (with_reducible refine (SG.out _).mono ?_); rintro en wb ⟨rfl, rfl⟩))
              go_ret2
              exact HRT.out _ _ _ _ HAN.out rfl yba
end Go.Proofs.YthaelmnblgollaaGreatDoor

set_option linter.unusedVariables false
set_option linter.unusedSimpArgs false
namespace Go.Ulp
open Go.RowKit
theorem cmpI_ng (a b : Int) : cmpI a b < 0 ↔ a < b := by
  unfold cmpI
  by_cases h : a < b
  · rw [if_pos h]; omega
  · rw [if_neg h]; split <;> omega
theorem cmpI_ps (a b : Int) : 0 < cmpI a b ↔ b < a := by
  unfold cmpI
  by_cases h : a < b
  · rw [if_pos h]; omega
  · rw [if_neg h]; split <;> omega
theorem cmpI_lq (a b : Int) : cmpI a b ≤ 0 ↔ a ≤ b := by
  have := cmpI_ps a b; omega
/-- between the middles; at them, if it is even -/
def fitR (K A B r : Nat) : Prop := (rdM K A B ((r : Int) - 1) < 0 ∧ 0 < rdM K A B r) ∨ (r % 2 = 0 ∧ (rdM K A B ((r : Int) - 1) = 0 ∨ rdM K A B r = 0))
theorem rdC_nat (K A B l : Nat) : rdC K A B (l : Int) = cmpI ((rvi l * B : Nat) : Int) ((A * 2 ^ K : Nat) : Int) := by
  unfold rdC
  rw [rvs_nat9, pw_nat, Int.natCast_mul, Int.natCast_mul]
theorem rdM_nat (K A B l : Nat) : rdM K A B (l : Int) = cmpI ((rvi l * B + rvi (l + 1) * B : Nat) : Int) ((2 * (A * 2 ^ K) : Nat) : Int) := by
  unfold rdM
  rw [show (l : Int) + 1 = ((l + 1 : Nat) : Int) by omega, rvs_nat9, rvs_nat9, pw_nat, Int.natCast_mul 2, Int.natCast_mul A, Int.natCast_add, Int.natCast_mul, Int.natCast_mul, Int.add_mul]
  rfl
theorem read_fits (K A B r l : Nat) (hB : 0 < B) (hr : 1 ≤ r) (hr2 : r < 9218868437227405312) (l1 : l < 9218868437227405312) (l2 : rdC K A B l ≤ 0) (l3 : l + 1 = 9218868437227405312 ∨ 0 < rdC K A B ((l : Int) + 1)) :
    (rdA K A B 0 l).1 = (r : Int) ↔ fitR K A B r := by
  have mono : ∀ a b : Nat, a < b → rvi a * B < rvi b * B := fun a b h => Nat.mul_lt_mul_of_pos_right (rvi_mono h) hB
  have cl := rdC_nat K A B l
  have cl1 := rdC_nat K A B (l + 1)
  have cm := rdM_nat K A B l
  have cr := rdM_nat K A B r
  have cr1 := rdM_nat K A B (r - 1)
  rw [show ((l + 1 : Nat) : Int) = (l : Int) + 1 by omega] at cl1
  rw [show ((r - 1 : Nat) : Int) = (r : Int) - 1 by omega, show r - 1 + 1 = r by omega] at cr1
  obtain ⟨V, hV⟩ : ∃ V, V = A * 2 ^ K := ⟨_, rfl⟩
  rw [← hV] at cl cl1 cm cr cr1
  unfold rdA rdU fitR
  rw [cl] at l2 ⊢
  rw [cl1] at l3
  rw [cm, cr, cr1]
  have a1 := cmpI_ng ((rvi l * B + rvi (l + 1) * B : Nat) : Int) ((2 * V : Nat) : Int)
  have a2 := cmpI_eq_zero ((rvi l * B + rvi (l + 1) * B : Nat) : Int) ((2 * V : Nat) : Int)
  have b1 := cmpI_ng ((rvi r * B + rvi (r + 1) * B : Nat) : Int) ((2 * V : Nat) : Int)
  have b2 := cmpI_eq_zero ((rvi r * B + rvi (r + 1) * B : Nat) : Int) ((2 * V : Nat) : Int)
  have b3 := cmpI_ps ((rvi r * B + rvi (r + 1) * B : Nat) : Int) ((2 * V : Nat) : Int)
  have d1 := cmpI_ng ((rvi (r - 1) * B + rvi r * B : Nat) : Int) ((2 * V : Nat) : Int)
  have d2 := cmpI_eq_zero ((rvi (r - 1) * B + rvi r * B : Nat) : Int) ((2 * V : Nat) : Int)
  have e1 := cmpI_lq ((rvi l * B : Nat) : Int) ((V : Nat) : Int)
  have e2 := cmpI_eq_zero ((rvi l * B : Nat) : Int) ((V : Nat) : Int)
  have f1 := cmpI_ps ((rvi (l + 1) * B : Nat) : Int) ((V : Nat) : Int)
  rw [e1] at l2
  rw [f1] at l3
  rw [b3, d1, d2, b2]
  have m1 := mono l (l + 1) (by omega)
  have m2 := mono r (r + 1) (by omega)
  have m3 := mono (r - 1) r (by omega)
  have key : ∀ a b : Nat, rvi a * B < rvi b * B → a < b := fun a b h => by
    rcases Nat.lt_or_ge a b with h2 | h2
    · exact h2
    · rcases Nat.lt_or_ge b a with h3 | h3
      · have := mono b a h3; omega
      · rw [show a = b by omega] at h; omega
  have up : (decide ((0 : Int) = 1 ∨ ((0 : Int) = 0 ∧ (cmpI ((rvi l * B + rvi (l + 1) * B : Nat) : Int) ((2 * V : Nat) : Int) < 0 ∨ (cmpI ((rvi l * B + rvi (l + 1) * B : Nat) : Int) ((2 * V : Nat) : Int) = 0 ∧ (l : Int) % 2 = 1))) ∨ ((0 : Int) = 4 ∧ cmpI ((rvi l * B + rvi (l + 1) * B : Nat) : Int) ((2 * V : Nat) : Int) ≤ 0)) = true) ↔ (rvi l * B + rvi (l + 1) * B < 2 * V ∨ (rvi l * B + rvi (l + 1) * B = 2 * V ∧ l % 2 = 1)) := by
    rw [decide_eq_true_eq, a1, a2]; omega
  by_cases hz : ((rvi l * B : Nat) : Int) = ((V : Nat) : Int)
  · rw [if_pos (e2.2 hz)]
    show (l : Int) = r ↔ _
    constructor
    · intro h
      have h : l = r := by omega
      subst h
      left; omega
    · intro h
      have h1 : r - 1 < l := key _ _ (by omega)
      have h2 : l < r + 1 := key _ _ (by omega)
      omega
  · rw [if_neg (fun h => hz (e2.1 h))]
    by_cases hu : (rvi l * B + rvi (l + 1) * B < 2 * V ∨ (rvi l * B + rvi (l + 1) * B = 2 * V ∧ l % 2 = 1))
    · rw [if_pos (up.2 hu)]
      show (l : Int) + 1 = r ↔ _
      constructor
      · intro h
        have h : r = l + 1 := by omega
        subst h
        rw [show l + 1 - 1 = l by omega] at *
        have h5 : V < rvi (l + 1) * B := by omega
        rcases hu with h6 | ⟨h6, h7⟩
        · left; omega
        · right; omega
      · intro h
        have h1 : r - 1 < l + 1 := by
          rcases l3 with h9 | h9
          · omega
          · exact key _ _ (by omega)
        have h2 : l < r + 1 := key _ _ (by omega)
        by_cases h3 : r = l + 1
        · omega
        · exfalso
          have h4 : r = l := by omega
          subst h4
          omega
    · rw [if_neg (fun h => hu (up.1 h))]
      show (l : Int) = r ↔ _
      constructor
      · intro h
        have h : l = r := by omega
        subst h
        by_cases h6 : rvi l * B + rvi (l + 1) * B = 2 * V
        · right; omega
        · left; omega
      · intro h
        have h2 : l < r + 1 := key _ _ (by omega)
        by_cases h3 : l + 1 = 9218868437227405312
        · omega
        · have h5 : V < rvi (l + 1) * B := by omega
          have h1 : r - 1 < l + 1 := key _ _ (by omega)
          by_cases h4 : r = l + 1
          · exfalso
            subst h4
            rw [show l + 1 - 1 = l by omega] at *
            omega
          · omega
/-- what short.compare answers -/
def cmpT (n : Nat) (k : Int) (m : Nat) (ex : Int) : Int := cmpI ((n * 10 ^ k.toNat * 2 ^ (-ex).toNat : Nat) : Int) ((m * 2 ^ ex.toNat * 10 ^ (-k).toNat : Nat) : Int)
/-- a number's parts: its digits, its exponent and its limits -/
def lmM (E f : Nat) : Nat := if E = 0 then f else f + 4503599627370496
def lmH (E : Nat) : Nat := E - 1
def lmL (E f : Nat) : Nat := if f = 0 ∧ 1 < E then 4 * lmM E f - 1 else 4 * lmM E f - 2
def lmX (E : Nat) : Int := (lmH E : Int) - 1076
theorem rvi_lm (E f : Nat) (hf : f < 4503599627370496) : rvi (E * 4503599627370496 + f) = lmM E f * 2 ^ lmH E ∧ rvi (E * 4503599627370496 + f + 1) = (lmM E f + 1) * 2 ^ lmH E := by
  unfold lmM lmH
  by_cases h : E = 0
  · subst h
    have := rvi_parts 0 f (by omega) (.inl rfl)
    rw [if_pos rfl, Nat.zero_mul, Nat.zero_add, show 0 - 1 = 0 by omega]
    rw [Nat.zero_mul, Nat.zero_add] at this
    exact this
  · have := rvi_parts (E - 1) (f + 4503599627370496) (by omega) (.inr (by omega))
    rw [if_neg h]
    rw [show (E - 1) * 4503599627370496 + (f + 4503599627370496) = E * 4503599627370496 + f by omega] at this
    exact this
theorem lm_low (E f : Nat) (hf : f < 4503599627370496) (hr : 1 ≤ E * 4503599627370496 + f) : 2 * (rvi (E * 4503599627370496 + f - 1) + rvi (E * 4503599627370496 + f)) = lmL E f * 2 ^ lmH E := by
  have h0 := (rvi_lm E f hf).1
  by_cases h : f = 0 ∧ 1 < E
  · obtain ⟨rfl, hE⟩ := h
    have h1 := (rvi_lm (E - 1) 4503599627370495 (by omega)).1
    rw [show (E - 1) * 4503599627370496 + 4503599627370495 = E * 4503599627370496 + 0 - 1 by omega] at h1
    rw [h0, h1]
    unfold lmL lmM
    rw [if_pos (show (0 : Nat) = 0 ∧ 1 < E from ⟨rfl, hE⟩), if_neg (show ¬ E = 0 by omega), if_neg (show ¬ E - 1 = 0 by omega)]
    have h2 : lmH E = lmH (E - 1) + 1 := by unfold lmH; omega
    rw [h2, Nat.pow_succ]
    generalize 2 ^ lmH (E - 1) = P
    omega
  · unfold lmL
    rw [if_neg h]
    by_cases hf0 : f = 0
    · subst hf0
      have hE1 : E = 1 := by
        by_cases h3 : E = 1
        · exact h3
        · exact absurd (And.intro rfl (by omega : 1 < E)) h
      subst hE1
      have h1 := (rvi_lm 0 4503599627370495 (by omega)).1
      rw [show 1 * 4503599627370496 + 0 - 1 = 0 * 4503599627370496 + 4503599627370495 by omega, h1, h0]
      decide
    · have h1 := rvi_lm E (f - 1) (by omega)
      have h2 : lmM E (f - 1) = lmM E f - 1 := by unfold lmM; split <;> omega
      have h3 : 1 ≤ lmM E f := by unfold lmM; split <;> omega
      rw [show E * 4503599627370496 + f - 1 = E * 4503599627370496 + (f - 1) by omega, h1.1, h0, h2]
      obtain ⟨a, ha⟩ : ∃ a, lmM E f = a + 1 := ⟨lmM E f - 1, by omega⟩
      rw [ha, show a + 1 - 1 = a by omega, ← Nat.add_mul, ← Nat.mul_assoc]
      congr 1; omega
theorem lm_high (E f : Nat) (hf : f < 4503599627370496) : 2 * (rvi (E * 4503599627370496 + f) + rvi (E * 4503599627370496 + f + 1)) = (4 * lmM E f + 2) * 2 ^ lmH E := by
  obtain ⟨h0, h1⟩ := rvi_lm E f hf
  rw [h0, h1, ← Nat.add_mul, ← Nat.mul_assoc]
  congr 1; omega
theorem cmpT_at (n : Nat) (k : Int) (m h : Nat) (y A B : Nat) (hA : A = n * 10 ^ k.toNat) (hB : B = 10 ^ (-k).toNat) (hy : 2 * y = m * 2 ^ h) :
    cmpT n k m ((h : Int) - 1076) = -cmpI ((y * B : Nat) : Int) ((2 * (A * 2 ^ 1074) : Nat) : Int) := by
  rw [cmpI_swap, Int.neg_neg]
  unfold cmpT
  rw [← hA, ← hB]
  obtain ⟨K, hK⟩ : ∃ K : Nat, K = 1074 := ⟨_, rfl⟩
  obtain ⟨S, hS⟩ : ∃ S : Nat, S = K + 2 := ⟨_, rfl⟩
  rw [← hK, show (1076 : Int) = (S : Int) by omega]
  have e2 : (2 * (A * 2 ^ K)) * 2 = A * 2 ^ S := by
    rw [hS, Nat.pow_add, show (2 : Nat) ^ 2 = 4 from rfl]
    generalize (2 : Nat) ^ K = P
    rw [Nat.mul_assoc, Nat.mul_comm 2 (A * P * 2), ← Nat.mul_assoc A P 4]; omega
  have e3 : y * B * 2 = m * 2 ^ h * B := by rw [← hy, Nat.mul_right_comm, Nat.mul_comm y 2]
  rw [← cmpI_nat_scale (2 * (A * 2 ^ K)) (y * B) 2 (by omega), e2, e3]
  clear e2
  by_cases hc : S ≤ h
  · rw [show (-((h : Int) - (S : Int))).toNat = 0 by omega, show ((h : Int) - (S : Int)).toNat = h - S by omega, Nat.pow_zero, Nat.mul_one,
      ← cmpI_nat_scale A (m * 2 ^ (h - S) * B) (2 ^ S) (Nat.two_pow_pos _)]
    congr 2
    rw [Nat.mul_right_comm, Nat.mul_assoc m, ← Nat.pow_add, show h - S + S = h by omega]
  · rw [show (-((h : Int) - (S : Int))).toNat = S - h by omega, show ((h : Int) - (S : Int)).toNat = 0 by omega, Nat.pow_zero, Nat.mul_one,
      ← cmpI_nat_scale (A * 2 ^ (S - h)) (m * B) (2 ^ h) (Nat.two_pow_pos _)]
    congr 2
    · rw [Nat.mul_assoc A, ← Nat.pow_add, show S - h + h = S by omega]
    · rw [Nat.mul_right_comm]
/-- what fits answers -/
def fitP (E f n : Nat) (k : Int) : Bool := (decide (0 < cmpT n k (lmL E f) (lmX E)) && decide (cmpT n k (4 * lmM E f + 2) (lmX E) < 0)) || (decide (f % 2 = 0) && (decide (cmpT n k (lmL E f) (lmX E) = 0) || decide (cmpT n k (4 * lmM E f + 2) (lmX E) = 0)))
theorem fitP_iff (E f n : Nat) (k : Int) (hf : f < 4503599627370496) (hr : 1 ≤ E * 4503599627370496 + f) : fitP E f n k = true ↔ fitR 1074 (n * 10 ^ k.toNat) (10 ^ (-k).toNat) (E * 4503599627370496 + f) := by
  obtain ⟨r, hr2⟩ : ∃ r, r = E * 4503599627370496 + f := ⟨_, rfl⟩
  have h1 := cmpT_at n k (lmL E f) (lmH E) (rvi (r - 1) + rvi r) _ _ rfl rfl (by rw [hr2]; exact lm_low E f hf hr)
  have h2 := cmpT_at n k (4 * lmM E f + 2) (lmH E) (rvi r + rvi (r + 1)) _ _ rfl rfl (by rw [hr2]; exact lm_high E f hf)
  have g1 := rdM_nat 1074 (n * 10 ^ k.toNat) (10 ^ (-k).toNat) (r - 1)
  have g2 := rdM_nat 1074 (n * 10 ^ k.toNat) (10 ^ (-k).toNat) r
  rw [show ((r - 1 : Nat) : Int) = (r : Int) - 1 by omega, show r - 1 + 1 = r by omega, ← Nat.add_mul] at g1
  rw [← Nat.add_mul] at g2
  rw [← g1] at h1
  rw [← g2] at h2
  have hp : f % 2 = r % 2 := by omega
  unfold fitP fitR lmX
  rw [← hr2, h1, h2, hp]
  simp only [Bool.or_eq_true, Bool.and_eq_true, decide_eq_true_eq]
  omega
end Go.Ulp

set_option linter.unusedVariables false
set_option linter.unusedSimpArgs false
namespace Go.Ulp
open Go.RowKit
/-- a ratio in memory of the call's own -/
def RetRat (w : World) (neg : Bool) (a b : Nat) (e : Ending) (w' : World) : Prop := ∃ g, e = .returned (.pointer (some ⟨g, 0, none⟩)) ∧ RtAt w' g neg a b ∧ Below w.heap.size w w'
def Fact.rat (neg : Bool) (a b : Nat) : Fact := ⟨fun v w => ∃ g, v = .pointer (some ⟨g, 0, none⟩) ∧ RtAt w g neg a b, fun _ _ _ h hb => by
  obtain ⟨g, h1, h2⟩ := h; exact ⟨g, h1, h2.below hb⟩⟩
/-- a ratio's cells -/
def Fact.rtv (neg : Bool) (s : Value) (x : Int) (a b : Nat) : Fact := ⟨fun v w => ∃ an cn bn dn, v = .agg #[.bool neg, s, .int .i64 x, .slice an (limbs a).length cn, .slice bn (limbs b).length dn] ∧ Ns .u32 w an cn (limbs a) ∧ Ns .u32 w bn dn (limbs b), fun _ _ _ h hb => by
  obtain ⟨an, cn, bn, dn, h1, h2, h3⟩ := h; exact ⟨an, cn, bn, dn, h1, h2.below hb, h3.below hb⟩⟩
theorem rat_made (w : World) (neg : Bool) (s : Value) (x : Int) (a b : Nat) (an bn : Option Addr) (cn dn : Nat) (t : TypeId) (h : Ns .u32 w an cn (limbs a)) (k : Ns .u32 w bn dn (limbs b)) :
    RtAt (w.alloc (.cells #[.bool neg, s, .int .i64 x, .slice an (limbs a).length cn, .slice bn (limbs b).length dn] t)) w.heap.size neg a b := by
  refine ⟨an, cn, bn, dn, ?_, ?_, ?_, h.below (below_alloc _ _), k.below (below_alloc _ _)⟩
  · rw [World.cell?_alloc_at (hn := rfl)]; rfl
  · rw [World.cell?_alloc_at (hn := rfl)]; rfl
  · rw [World.cell?_alloc_at (hn := rfl)]; rfl
end Go.Ulp
namespace Go.Proofs.YthaelmnblgollaaGreatDoor
open Go.RowKit Go.Ulp
set_option linter.unusedVariables false
set_option linter.unusedSimpArgs false
set_option maxHeartbeats 1000000
set_option maxRecDepth 100000
theorem scaled_any (v : Value) (D : Dy) (t : Int) (w : World) (hv : VD w D v) (hl : (limbs D.1.natAbs).length ≤ 1000) (he : -20000 ≤ D.2 ∧ D.2 ≤ 20000) (ht : -10000 ≤ t ∧ t ≤ 10000) :
    Calls Tryz.prog 202 #[v, .int .i64 t] w (RetRat w (decide (D.1 < 0)) (dA D * tnN t) (dB D * tnN (-t))) := by
  obtain ⟨am, cm, rfl, hN⟩ := hv
  obtain ⟨M, hM⟩ : ∃ M, M = D.1.natAbs := ⟨_, rfl⟩
  obtain ⟨x, hx⟩ : ∃ x, x = D.2 := ⟨_, rfl⟩
  obtain ⟨neg, hneg⟩ : ∃ n, n = decide (D.1 < 0) := ⟨_, rfl⟩
  obtain ⟨T, hT⟩ : ∃ T : Nat, T = t.toNat := ⟨_, rfl⟩
  obtain ⟨S, hS⟩ : ∃ T : Nat, T = (-t).toNat := ⟨_, rfl⟩
  obtain ⟨X, hX⟩ : ∃ T : Nat, T = x.toNat := ⟨_, rfl⟩
  obtain ⟨Y, hY⟩ : ∃ T : Nat, T = (-x).toNat := ⟨_, rfl⟩
  have EA : dA D * tnN t = M * 10 ^ T * 2 ^ X := by unfold dA tnN; rw [← hM, ← hx, ← hX, ← hT, Nat.mul_right_comm]
  have EB : dB D * tnN (-t) = 10 ^ S * 2 ^ Y := by unfold dB tnN; rw [← hx, ← hY, ← hS, Nat.mul_comm]
  rw [EA, EB]
  rw [← hM] at hN hl ⊢
  rw [← hx, ← hneg]
  rw [← hx] at he
  have m1 : max t 0 = (T : Int) := by omega
  have m2 : max (-t) 0 = (S : Int) := by omega
  have m3 : max x 0 = (X : Int) := by omega
  have m4 : max (-x) 0 = (Y : Int) := by omega
  clear EA EB hM hx hneg
  have lT := limbs_ten T (by omega)
  have lS := limbs_ten S (by omega)
  have lMT := limbs_len_mul M (10 ^ T) 1000 3002 hl lT
  have P1 := hid (fun w => pow10_any T (by omega) w)
  have P2 := hid (fun w => pow10_any S (by omega) w)
  have TI := hid (fun b d w h0 h1 => times_any am b cm d M (10 ^ T) w h0 h1 (by omega) (by omega))
  have L1 := hid (fun b d w h0 => leftN_any b d (M * 10 ^ T) X w h0 (by omega) (by omega))
  have L2 := hid (fun b d w h0 => leftN_any b d (10 ^ S) Y w h0 (by omega) (by omega))
  have HN := hid hN
  clear hN lT lS lMT hT hS hX hY
  have zQ : QL 26 (w.alloc (.cells #[.bool neg, .slice am (limbs M).length cm, .int .i64 x] 26)) w.heap.size neg (.slice am (limbs M).length cm) x := QL.made rfl
  have yb0 := below_alloc w (.cells #[.bool neg, .slice am (limbs M).length cm, .int .i64 x] 26)
  go_enter Tryz.func202, Tryz.ntmps202
  go_upto_region 1 with fail
  refine wp_worldZ (fun WW => Below w.heap.size w WW ∧ QL 26 WW w.heap.size neg (.slice am (limbs M).length cm) x ∧ Ns .u32 WW am cm (limbs M)) ⟨yb0, zQ, HN.out.below yb0⟩ ?_
  intro W1 ⟨yb1, zQ1, hN1⟩
  obtain ⟨g2, hg2⟩ : ∃ g, g = w.heap.size := ⟨_, rfl⟩
  rw [← hg2] at zQ1
  rw [← hg2]
  clear hg2 zQ yb0 HN
  refine wp_region_grow 23 [5, 6, 7, 8, 9, 10, 11, 12, 13, 14, 15, 16, 17, 18, 19, 20, 21, 22, 23, 24, 25, 26, 4] [Fact.is (.agg #[.bool neg, .slice am (limbs M).length cm, .int .i64 x]), Fact.is (.pointer (some ⟨g2, 1, none⟩)), Fact.is (.slice am (limbs M).length cm), Fact.is (.int .i64 t), Fact.is (.int .i64 (T : Int)), Fact.li (10 ^ T), Fact.li (M * 10 ^ T), Fact.is (.pointer (some ⟨g2, 2, none⟩)), Fact.is (.int .i64 x), Fact.is (.int .i64 (X : Int)), Fact.li (M * 10 ^ T * 2 ^ X), Fact.is (.int .i64 t), Fact.is (.int .i64 (-t)), Fact.is (.int .i64 (S : Int)), Fact.li (10 ^ S), Fact.is (.pointer (some ⟨g2, 2, none⟩)), Fact.is (.int .i64 x), Fact.is (.int .i64 (-x)), Fact.is (.int .i64 (Y : Int)), Fact.li (10 ^ S * 2 ^ Y), Fact.rtv neg (.slice am (limbs M).length cm) x (M * 10 ^ T * 2 ^ X) (10 ^ S * 2 ^ Y), Fact.rat neg (M * 10 ^ T * 2 ^ X) (10 ^ S * 2 ^ Y), Fact.rat neg (M * 10 ^ T * 2 ^ X) (10 ^ S * 2 ^ Y)] (by kernel_rfl) (by kernel_rfl) ⟨?o0, ?o1, ?o2, ?o3, ?o4, ?o5, ?o6, ?o7, ?o8, ?o9, ?o10, ?o11, ?o12, ?o13, ?o14, ?o15, ?o16, ?o17, ?o18, ?o19, ?o20, ?o21, ?o22, trivial⟩ ?after
  case o0 => (refine StepOK.plain rfl ?_; intro ρ w1 R hρ hb hp hR; have e2 : ρ (.tmp 2) = .pointer (some ⟨g2, 0, none⟩) := hρ.tmp 2 rfl; obtain ⟨⟨j0, j1, -⟩, j2, -⟩ := zQ1.below hb; have hcon := hρ.con; have hfn := hρ.fn; clear hρ hp; unfold OpRun; go_simp; exact hR _ _ (Below.refl _ _) rfl)
  case o1 => (refine StepOK.plain rfl ?_; intro ρ w1 R hρ hb hp hR; have e2 : ρ (.tmp 2) = .pointer (some ⟨g2, 0, none⟩) := hρ.tmp 2 rfl; have hcon := hρ.con; have hfn := hρ.fn; clear hρ hp; unfold OpRun; go_simp; exact hR _ _ (Below.refl _ _) rfl)
  case o2 => (refine StepOK.plain rfl ?_; intro ρ w1 R hρ hb hp hR; have e6 : ρ (.tmp 6) = _ := hp 1 6 rfl rfl; obtain ⟨⟨j0, j1, -⟩, j2, -⟩ := zQ1.below hb; have hcon := hρ.con; have hfn := hρ.fn; clear hρ hp; unfold OpRun; go_simp; exact hR _ _ (Below.refl _ _) rfl)
  case o3 => (refine StepOK.plain rfl ?_; intro ρ w1 R hρ hb hp hR; have e1 : ρ (.tmp 1) = .int .i64 t := hρ.tmp 1 rfl; have hcon := hρ.con; have hfn := hρ.fn; clear hρ hp; unfold OpRun; go_simp; exact hR _ _ (Below.refl _ _) rfl)
  case o4 => (refine StepOK.plain rfl ?_; intro ρ w1 R hρ hb hp hR; have e8 : ρ (.tmp 8) = _ := hp 3 8 rfl rfl; have hcon := hρ.con; have hfn := hρ.fn; clear hρ hp; unfold OpRun; go_simp; exact hR _ _ (Below.refl _ _) rfl)
  case o5 => (refine StepOK.plain rfl ?_; intro ρ w1 R hρ hb hp hR; have e9 : ρ (.tmp 9) = _ := hp 4 9 rfl rfl; have hcon := hρ.con; have hfn := hρ.fn; clear hρ hp; unfold OpRun; go_simp; (refine (P1.out _).mono ?_; rintro e wn ⟨b9, d9, rfl, hn9, hbn⟩; exact ⟨_, rfl, hR _ _ hbn ⟨b9, d9, rfl, hn9⟩⟩))
  case o6 => (refine StepOK.plain rfl ?_; intro ρ w1 R hρ hb hp hR; have e7 : ρ (.tmp 7) = _ := hp 2 7 rfl rfl; have f10 := hp 5 10 rfl rfl; obtain ⟨b10, d10, e10, hn10⟩ := f10; have hcon := hρ.con; have hfn := hρ.fn; clear hρ hp; unfold OpRun; go_simp; (skip; refine (TI.out _ _ _ (hN1.below hb) hn10).mono ?_; rintro e wn ⟨b9, rfl, hn9, hbn⟩; exact ⟨_, rfl, hR _ _ hbn ⟨b9, _, rfl, hn9⟩⟩))
  case o7 => (refine StepOK.plain rfl ?_; intro ρ w1 R hρ hb hp hR; have e2 : ρ (.tmp 2) = .pointer (some ⟨g2, 0, none⟩) := hρ.tmp 2 rfl; have hcon := hρ.con; have hfn := hρ.fn; clear hρ hp; unfold OpRun; go_simp; exact hR _ _ (Below.refl _ _) rfl)
  case o8 => (refine StepOK.plain rfl ?_; intro ρ w1 R hρ hb hp hR; have e12 : ρ (.tmp 12) = _ := hp 7 12 rfl rfl; obtain ⟨⟨j0, j1, -⟩, j2, -⟩ := zQ1.below hb; have hcon := hρ.con; have hfn := hρ.fn; clear hρ hp; unfold OpRun; go_simp; exact hR _ _ (Below.refl _ _) rfl)
  case o9 => (refine StepOK.plain rfl ?_; intro ρ w1 R hρ hb hp hR; have e13 : ρ (.tmp 13) = _ := hp 8 13 rfl rfl; have hcon := hρ.con; have hfn := hρ.fn; clear hρ hp; unfold OpRun; go_simp; exact hR _ _ (Below.refl _ _) rfl)
  case o10 => (refine StepOK.plain rfl ?_; intro ρ w1 R hρ hb hp hR; have f11 := hp 6 11 rfl rfl; have e14 : ρ (.tmp 14) = _ := hp 9 14 rfl rfl; obtain ⟨b11, d11, e11, hn11⟩ := f11; have hcon := hρ.con; have hfn := hρ.fn; clear hρ hp; unfold OpRun; go_simp; (skip; refine (L1.out _ _ _ hn11).mono ?_; rintro e wn ⟨b9, rfl, hn9, hbn⟩; exact ⟨_, rfl, hR _ _ hbn ⟨b9, _, rfl, hn9⟩⟩))
  case o11 => (refine StepOK.plain rfl ?_; intro ρ w1 R hρ hb hp hR; have e1 : ρ (.tmp 1) = .int .i64 t := hρ.tmp 1 rfl; have hcon := hρ.con; have hfn := hρ.fn; clear hρ hp; unfold OpRun; go_simp; exact hR _ _ (Below.refl _ _) rfl)
  case o12 => (refine StepOK.plain rfl ?_; intro ρ w1 R hρ hb hp hR; have e16 : ρ (.tmp 16) = _ := hp 11 16 rfl rfl; have hwp : IntKind.i64.wrap (-t) = -t := IntWalk.i64_in _ (by omega); have hcon := hρ.con; have hfn := hρ.fn; clear hρ hp; unfold OpRun; go_simp; exact hR _ _ (Below.refl _ _) rfl)
  case o13 => (refine StepOK.plain rfl ?_; intro ρ w1 R hρ hb hp hR; have e17 : ρ (.tmp 17) = _ := hp 12 17 rfl rfl; have hcon := hρ.con; have hfn := hρ.fn; clear hρ hp; unfold OpRun; go_simp; exact hR _ _ (Below.refl _ _) rfl)
  case o14 => (refine StepOK.plain rfl ?_; intro ρ w1 R hρ hb hp hR; have e18 : ρ (.tmp 18) = _ := hp 13 18 rfl rfl; have hcon := hρ.con; have hfn := hρ.fn; clear hρ hp; unfold OpRun; go_simp; (refine (P2.out _).mono ?_; rintro e wn ⟨b9, d9, rfl, hn9, hbn⟩; exact ⟨_, rfl, hR _ _ hbn ⟨b9, d9, rfl, hn9⟩⟩))
  case o15 => (refine StepOK.plain rfl ?_; intro ρ w1 R hρ hb hp hR; have e2 : ρ (.tmp 2) = .pointer (some ⟨g2, 0, none⟩) := hρ.tmp 2 rfl; have hcon := hρ.con; have hfn := hρ.fn; clear hρ hp; unfold OpRun; go_simp; exact hR _ _ (Below.refl _ _) rfl)
  case o16 => (refine StepOK.plain rfl ?_; intro ρ w1 R hρ hb hp hR; have e20 : ρ (.tmp 20) = _ := hp 15 20 rfl rfl; obtain ⟨⟨j0, j1, -⟩, j2, -⟩ := zQ1.below hb; have hcon := hρ.con; have hfn := hρ.fn; clear hρ hp; unfold OpRun; go_simp; exact hR _ _ (Below.refl _ _) rfl)
  case o17 => (refine StepOK.plain rfl ?_; intro ρ w1 R hρ hb hp hR; have e21 : ρ (.tmp 21) = _ := hp 16 21 rfl rfl; have hwp : IntKind.i64.wrap (-x) = -x := IntWalk.i64_in _ (by omega); have hcon := hρ.con; have hfn := hρ.fn; clear hρ hp; unfold OpRun; go_simp; exact hR _ _ (Below.refl _ _) rfl)
  case o18 => (refine StepOK.plain rfl ?_; intro ρ w1 R hρ hb hp hR; have e22 : ρ (.tmp 22) = _ := hp 17 22 rfl rfl; have hcon := hρ.con; have hfn := hρ.fn; clear hρ hp; unfold OpRun; go_simp; exact hR _ _ (Below.refl _ _) rfl)
  case o19 => (refine StepOK.plain rfl ?_; intro ρ w1 R hρ hb hp hR; have f19 := hp 14 19 rfl rfl; have e23 : ρ (.tmp 23) = _ := hp 18 23 rfl rfl; obtain ⟨b19, d19, e19, hn19⟩ := f19; have hcon := hρ.con; have hfn := hρ.fn; clear hρ hp; unfold OpRun; go_simp; (skip; refine (L2.out _ _ _ hn19).mono ?_; rintro e wn ⟨b9, rfl, hn9, hbn⟩; exact ⟨_, rfl, hR _ _ hbn ⟨b9, _, rfl, hn9⟩⟩))
  case o20 => (refine StepOK.plain rfl ?_; intro ρ w1 R hρ hb hp hR; have e5 : ρ (.tmp 5) = _ := hp 0 5 rfl rfl; have f15 := hp 10 15 rfl rfl; have f24 := hp 19 24 rfl rfl; obtain ⟨b15, d15, e15, hn15⟩ := f15; obtain ⟨b24, d24, e24, hn24⟩ := f24; have hcon := hρ.con; have hfn := hρ.fn; clear hρ hp; unfold OpRun; go_simp; exact hR _ _ (Below.refl _ _) ⟨b15, d15, b24, d24, rfl, hn15, hn24⟩)
  case o21 => (refine StepOK.plain rfl ?_; intro ρ w1 R hρ hb hp hR; have f25 := hp 20 25 rfl rfl; obtain ⟨b15, d15, b24, d24, e25, hn15, hn24⟩ := f25; have hcon := hρ.con; have hfn := hρ.fn; clear hρ hp; unfold OpRun; go_simp; exact hR _ _ (below_alloc _ _) ⟨_, rfl, rat_made _ _ _ _ _ _ _ _ _ _ _ hn15 hn24⟩)
  case o22 => (refine StepOK.plain rfl ?_; intro ρ w1 R hρ hb hp hR; have f26 := hp 21 26 rfl rfl; have hcon := hρ.con; have hfn := hρ.fn; clear hρ hp; unfold OpRun; go_simp; exact hR _ _ (Below.refl _ _) f26)
  case after =>
    intro u wn hb hf
    have f4 := hf 22 4 (by omega) rfl
    clear hf
    simp only [putAll, Act.put, List.setIfInBounds_toArray, List.set_cons_zero, List.set_cons_succ, List.drop_succ_cons, List.drop_zero, List.drop_nil]
    obtain ⟨g4, e4, hr4⟩ := f4
    rw [e4]
    go_wp2_with fail
    go_ret
    exact ⟨g4, rfl, hr4, below_trans yb1 hb⟩
end Go.Proofs.YthaelmnblgollaaGreatDoor
