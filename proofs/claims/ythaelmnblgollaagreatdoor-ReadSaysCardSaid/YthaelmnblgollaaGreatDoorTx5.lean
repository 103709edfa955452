/- The reference's decimals: ZTen, TenTimes, RatioMode, Pointed, Dashed. -/
import Derived.Test.YthaelmnblgollaaGreatDoorTx3
import Derived.Test.YthaelmnblgollaaGreatDoorZv
import Derived.Test.YthaelmnblgollaaGreatDoorRegM
set_option linter.unusedVariables false
set_option linter.unusedSimpArgs false
namespace Go.Ulp
open Go.RowKit
def tenZ (n : Nat) : Int := ((10 ^ n : Nat) : Int)
theorem tenZ_pos (n : Nat) : 0 < tenZ n := by unfold tenZ; have := Nat.pow_pos (n := n) (show 0 < 10 by omega); omega
theorem zl_len_ten (n : Nat) : (zl (tenZ n)).length ≤ n + 1 := by
  unfold zl
  refine (digs_len_le 10000 (by omega) _ _).2 ?_
  unfold tenZ
  rw [Int.natAbs_natCast]
  exact Nat.lt_of_lt_of_le (Nat.pow_lt_pow_right (by omega) (Nat.lt_succ_self n)) (Nat.pow_le_pow_left (by omega) _)
theorem tenZ_add (a b : Nat) : tenZ a * tenZ b = tenZ (a + b) := by unfold tenZ; rw [← Int.natCast_mul, Nat.pow_add]
/-- a value's size, as a ratio -/
def dA (D : Dy) : Nat := D.1.natAbs * 2 ^ D.2.toNat
def dB (D : Dy) : Nat := 2 ^ (-D.2).toNat
theorem dB_pos (D : Dy) : 0 < dB D := Nat.two_pow_pos _
theorem dA_pos (D : Dy) (h : D.1 ≠ 0) : 0 < dA D := Nat.mul_pos (by omega) (Nat.two_pow_pos _)
theorem nrm_ratio {X : Int} {n : Nat} {D : Dy} (h : nrm X (-(n : Int)) = D) : X.natAbs * dB D = dA D * 2 ^ n := by
  obtain ⟨k, h1, h2⟩ := nrm_rep X (-(n : Int))
  rw [h] at h1 h2
  by_cases hX : X = 0
  · have : D = (0, 0) := by rw [← h, hX]; rfl
    subst this
    rw [hX]; simp [dA]
  · have h2 := h2 hX
    have h3 : X.natAbs = D.1.natAbs * 2 ^ k := by rw [h1]; exact natAbs_mul_pw _ _
    unfold dA dB
    rw [h3, Nat.mul_assoc, Nat.mul_assoc, ← Nat.pow_add, ← Nat.pow_add]
    congr 2
    omega
/-- what TenTimes hands back -/
def RetTT (t : TypeId) (w : World) (D : Dy) (p : Int) (e : Ending) (w' : World) : Prop :=
  ∃ (a b : Nat) (v : Value), e = .returned v ∧ ZD2 t w' (a : Int) (b : Int) v ∧ 0 < b ∧ a * (dB D * tnN (-p)) = dA D * tnN p * b ∧ (zl (a : Int)).length ≤ 300000 ∧ (zl (b : Int)).length ≤ 300000 ∧ Below w.heap.size w w'
end Go.Ulp
namespace Go.Proofs.YthaelmnblgollaaGreatDoor
open Go.RowKit Go.Ulp
set_option linter.unusedVariables false
set_option linter.unusedSimpArgs false
set_option maxHeartbeats 1000000
set_option maxRecDepth 100000
theorem zten_aux (f : Nat) : ∀ (n : Nat) (w : World), n ≤ f → n ≤ 10000000 → Calls Tryz.prog 113 #[.int .i64 (n : Int)] w fun e w' => RetZ 3 w (tenZ n) e w' := by
  induction f with
  | zero =>
    intro n w hn _
    obtain rfl : n = 0 := by omega
    have O1 := hid (show ∀ w, Calls Tryz.prog 70 #[.int .i64 1] w fun e w' => RetZ 3 w (tenZ 0) e w' from fun w => zN_any 1 (by omega) w)
    have zR0 : ZL 39 (w.alloc (.cells #[.bool false, .slice none 0 0] 39)) w.heap.size false (.slice none 0 0) := ZL.made rfl
    have yb : Below w.heap.size w (w.alloc (.cells #[.bool false, .slice none 0 0] 39)) := below_alloc _ _
    go_enter Tryz.func113, Tryz.ntmps113
    go_wp2_with fail
    go_loopw [3, 7] (fun s3 s7 wr => s3 = .int .i64 1 ∧ s7 = .int .i64 0 ∧ wr = w.alloc (.cells #[.bool false, .slice none 0 0] 39)) (fun _ _ _ => 0)
    case atStart => exact ⟨rfl, rfl, rfl⟩
    case round =>
      obtain ⟨rfl, rfl, rfl⟩ := hrel
      go_wp2_with fail
      refine (O1.out _).mono ?_
      rintro e w1 ⟨ao, cap, rfl, hN, hb⟩
      have zR := zR0.below hb
      have k0 := zR.1
      have k1 := zR.2.1
      have f0 := zR.2.2.1
      have f1 := zR.2.2.2.1
      have hs2 := zR.2.2.2.2
      go_wp2_with fail
      refine bodyPost_ret (by simp [results, Tryz.results113, go_sem, k0, k1]; try rfl) rfl ?_
      exact ⟨_, _, rfl, (hN.setCell hs2 (by decide) _ _).setCell (hs2.setCell _ _) (by decide) _ _, ((below_trans yb hb).setCell (by first | omega | (simp; done) | (simp; omega)) _).setCell (by first | omega | (simp; done) | (simp; omega)) _⟩
  | succ f ih =>
    intro n w hn hs
    by_cases h0 : n = 0
    · subst h0; exact ih 0 w (by omega) (by omega)
    have IH := hid ih
    clear ih
    have zR0 : ZL 39 (w.alloc (.cells #[.bool false, .slice none 0 0] 39)) w.heap.size false (.slice none 0 0) := ZL.made rfl
    have yb : Below w.heap.size w (w.alloc (.cells #[.bool false, .slice none 0 0] 39)) := below_alloc _ _
    by_cases h8 : n < 8
    · have ON := hid (show ∀ (P : Nat) w, P = 10 ^ n → Calls Tryz.prog 70 #[.int .i64 (P : Int)] w fun e w' => RetZ 3 w (tenZ n) e w' from fun P w h => by
        have h9 : (10 : Nat) ^ n ≤ 10 ^ 8 := Nat.pow_le_pow_right (by omega) (by omega)
        have h7 : (10 : Nat) ^ 8 = 100000000 := by decide
        subst h
        exact zN_any (10 ^ n) (by omega) w)
      go_enter Tryz.func113, Tryz.ntmps113
      go_wp2_with fail
      go_loopw [3, 7] (fun s3 s7 wr => ∃ i P : Nat, s3 = .int .i64 (P : Int) ∧ s7 = .int .i64 (i : Int) ∧ i ≤ n ∧ P = 10 ^ i ∧ wr = w.alloc (.cells #[.bool false, .slice none 0 0] 39)) (fun _ s7 _ => n - (intOf s7).toNat)
      case atStart => exact ⟨0, 1, rfl, rfl, by omega, rfl, rfl⟩
      case round =>
        obtain ⟨i, P, rfl, rfl, hi, hP, rfl⟩ := hrel
        by_cases hin : i < n
        · have hPb : P ≤ 100000000 := by
            have h9 : (10 : Nat) ^ i ≤ 10 ^ 8 := Nat.pow_le_pow_right (by omega) (by omega)
            have h7 : (10 : Nat) ^ 8 = 100000000 := by decide
            omega
          have HP := hid (show P * 10 = 10 ^ (i + 1) by rw [Nat.pow_succ, hP])
          clear hP
          go_wp2_with fail
          go_roundw
          case rel => exact ⟨i + 1, P * 10, by go_num, by go_num, by omega, HP.out, by first | rfl | trivial⟩
          case measure => simp [intOf]; omega
        · have hi2 : i = n := by omega
          subst hi2
          have ONP := hid (fun w => ON.out P w hP)
          clear hP ON
          go_wp2_with fail
          refine (ONP.out _).mono ?_
          rintro e w1 ⟨ao, cap, rfl, hN, hb⟩
          have zR := zR0.below hb
          have k0 := zR.1
          have k1 := zR.2.1
          have f0 := zR.2.2.1
          have f1 := zR.2.2.2.1
          have hs2 := zR.2.2.2.2
          go_wp2_with fail
          refine bodyPost_ret (by simp [results, Tryz.results113, go_sem, k0, k1]; try rfl) rfl ?_
          exact ⟨_, _, rfl, (hN.setCell hs2 (by decide) _ _).setCell (hs2.setCell _ _) (by decide) _ _, ((below_trans yb hb).setCell (by first | omega | (simp; done) | (simp; omega)) _).setCell (by first | omega | (simp; done) | (simp; omega)) _⟩
    · have h1 : ¬ (n : Int) < 8 := by omega
      obtain ⟨q, hq⟩ : ∃ q, q = n / 2 := ⟨_, rfl⟩
      obtain ⟨r, hr⟩ : ∃ r, r = n - q := ⟨_, rfl⟩
      have e1 : (n : Int) / 2 = (q : Int) := by omega
      have e2 : (n : Int) - (q : Int) = (r : Int) := by omega
      have hq1 : q ≤ f := by omega
      have hr1 : r ≤ f := by omega
      have hq2 : q ≤ 10000000 := by omega
      have hr2 : r ≤ 10000000 := by omega
      have HS := hid (show tenZ q * tenZ r = tenZ n by rw [tenZ_add]; congr 1; omega)
      clear hq hr
      go_enter Tryz.func113, Tryz.ntmps113
      go_wp2_with fail
      refine (IH.out q _ hq1 hq2).mono ?_
      rintro e w1 ⟨ao, cap, rfl, hN, hb⟩
      go_wp2_with fail
      refine (IH.out r _ hr1 hr2).mono ?_
      rintro e w2 ⟨ao2, cap2, rfl, hN2, hb2⟩
      go_wp2_with fail
      refine (zmul_any _ _ _ _ _ _ _ (hN.below hb2) hN2 (Nat.le_trans (zl_len_ten q) (by omega)) (Nat.le_trans (zl_len_ten r) (by omega))).mono ?_
      rw [HS.out]
      rintro e w3 ⟨ao3, cap3, rfl, hN3, hb3⟩
      have zR := ((zR0.below hb).below hb2).below hb3
      have yb := below_trans (below_trans yb hb) hb2
      have k0 := zR.1
      have k1 := zR.2.1
      have f0 := zR.2.2.1
      have f1 := zR.2.2.2.1
      have hs2 := zR.2.2.2.2
      go_wp2_with fail
      refine bodyPost_ret (by simp [results, Tryz.results113, go_sem, k0, k1]; try rfl) rfl ?_
      exact ⟨_, _, rfl, (hN3.setCell hs2 (by decide) _ _).setCell (hs2.setCell _ _) (by decide) _ _, ((below_trans yb hb3).setCell (by first | omega | (simp; done) | (simp; omega)) _).setCell (by first | omega | (simp; done) | (simp; omega)) _⟩
theorem zTenD (n : Nat) (w : World) (hn : n ≤ 10000000) : Calls Tryz.prog 113 #[.int .i64 (n : Int)] w (RetZD 3 w (tenZ n)) := (zten_aux n n w (Nat.le_refl _) hn).mono fun _ _ h => h.zd
theorem tt_start (tq tz ti : TypeId) (X : Int) (n : Nat) (ao : Option Addr) (cap : Nat) (w : World) (h0 : Nz ti w ao cap (zl X)) :
    Below w.heap.size w (((w.alloc (.cells #[.bool (zneg X), .slice ao (zl X).length cap, .int .i64 (n : Int)] tq)).alloc (.cells #[.bool false, .slice none 0 0] tz)).alloc (.cells #[.bool false, .slice none 0 0] tz)) ∧ ZV tq ti (((w.alloc (.cells #[.bool (zneg X), .slice ao (zl X).length cap, .int .i64 (n : Int)] tq)).alloc (.cells #[.bool false, .slice none 0 0] tz)).alloc (.cells #[.bool false, .slice none 0 0] tz)) w.heap.size X ∧ (((w.alloc (.cells #[.bool (zneg X), .slice ao (zl X).length cap, .int .i64 (n : Int)] tq)).alloc (.cells #[.bool false, .slice none 0 0] tz)).alloc (.cells #[.bool false, .slice none 0 0] tz)).cell? ⟨w.heap.size, 2, none⟩ = some (.int .i64 (n : Int)) ∧ ZL tz (((w.alloc (.cells #[.bool (zneg X), .slice ao (zl X).length cap, .int .i64 (n : Int)] tq)).alloc (.cells #[.bool false, .slice none 0 0] tz)).alloc (.cells #[.bool false, .slice none 0 0] tz)) (w.heap.size + 1) false (.slice none 0 0) ∧ ZL tz (((w.alloc (.cells #[.bool (zneg X), .slice ao (zl X).length cap, .int .i64 (n : Int)] tq)).alloc (.cells #[.bool false, .slice none 0 0] tz)).alloc (.cells #[.bool false, .slice none 0 0] tz)) (w.heap.size + 1 + 1) false (.slice none 0 0) := by
  have q0 : QL tq (w.alloc (.cells #[.bool (zneg X), .slice ao (zl X).length cap, .int .i64 (n : Int)] tq)) w.heap.size (zneg X) (.slice ao (zl X).length cap) (n : Int) := QL.made rfl
  have q2 := (q0.alloc (.cells #[.bool false, .slice none 0 0] tz)).alloc (.cells #[.bool false, .slice none 0 0] tz)
  exact ⟨by (repeat' (first | (with_reducible assumption) | (with_reducible exact Below.refl _ _) | (with_reducible refine below_al ?_ _) | (with_reducible refine below_drewN ?_ _) | (with_reducible refine Below.drew ?_) | (with_reducible refine Below.alloc ?_ ?_ _) | (with_reducible refine Below.setCell ?_ ?_ _) | (refine below_trans ?_ (by assumption)) | go_size)), ⟨ao, cap, q2.1, h0.below (by (repeat' (first | (with_reducible assumption) | (with_reducible exact Below.refl _ _) | (with_reducible refine below_al ?_ _) | (with_reducible refine below_drewN ?_ _) | (with_reducible refine Below.drew ?_) | (with_reducible refine Below.alloc ?_ ?_ _) | (with_reducible refine Below.setCell ?_ ?_ _) | (refine below_trans ?_ (by assumption)) | go_size)))⟩, q2.2.1, (ZL.made (by simp)).alloc _, ZL.made (by simp)⟩
theorem tenTimes_pos (X : Int) (n : Nat) (ao : Option Addr) (cap p : Nat) (w : World) (h0 : Nz 3 w ao cap (zl X)) (hX : (zl X).length ≤ 100000) (hn : n ≤ 100000) (hp : p ≤ 10000) :
    Calls Tryz.prog 146 #[.agg #[.bool (zneg X), .slice ao (zl X).length cap, .int .i64 (n : Int)], .int .i64 (p : Int)] w (RetZD2 3 w ((X.natAbs : Int) * tenZ p) (pw n)) := by
  have lt := Nat.le_trans (zl_len_ten p) (show p + 1 ≤ 100000000 by omega)
  have lX : (zl (X.natAbs : Int)).length ≤ 100000000 := by rw [zl_nat]; exact Nat.le_trans hX (by omega)
  have H0 := hid h0
  clear h0
  go_enter Tryz.func146, Tryz.ntmps146
  go_upto_region 1 with fail
  refine wp_worldZ (fun WW => Below w.heap.size w WW ∧ ZV 41 3 WW w.heap.size X ∧ WW.cell? ⟨w.heap.size, 2, none⟩ = some (.int .i64 (n : Int)) ∧ ZL 39 WW (w.heap.size + 1) false (.slice none 0 0) ∧ ZL 39 WW (w.heap.size + 1 + 1) false (.slice none 0 0)) (tt_start 41 39 3 X n ao cap w H0.out) ?_
  intro W1 ⟨yb1, zQ, c2, z4, z5⟩
  obtain ⟨g5, hg5⟩ : ∃ g, g = w.heap.size + 1 + 1 := ⟨_, rfl⟩
  obtain ⟨g4, hg4⟩ : ∃ g, g = w.heap.size + 1 := ⟨_, rfl⟩
  obtain ⟨g2, hg2⟩ : ∃ g, g = w.heap.size := ⟨_, rfl⟩
  have b4 : w.heap.size ≤ g4 := by omega
  have b5 : w.heap.size ≤ g5 := by omega
  have n45 : g4 ≠ g5 := by omega
  rw [← hg5] at z5 ⊢
  rw [← hg4] at z4 ⊢
  rw [← hg2] at zQ c2
  rw [← hg2]
  clear hg2 hg4 hg5
  refine wp_region_growF 8 [8, 9, 10, 11, 12, 13, 6, 7] [Fact.is (.pointer (some ⟨g2, 0, none⟩)), Fact.z 3 (X), Fact.z 3 (((X).natAbs : Int)), Fact.is (.pointer (some ⟨g2, 2, none⟩)), Fact.is (.int .i64 (n : Int)), Fact.z 3 (pw n), Fact.z0 W1.heap.size 39, Fact.z0 W1.heap.size 39] [6, 7] (by kernel_rfl) (by kernel_rfl) ⟨?o0, ?o1, ?o2, ?o3, ?o4, ?o5, ?o6, ?o7, trivial⟩ ?after
  case o0 => (refine StepOKF.plain rfl ?_; intro ρ w1 R hρ hb hp hR; have e2 : ρ (.tmp 2) = .pointer (some ⟨g2, 0, none⟩) := hρ.tmp 2 rfl; replace hR := fun v w2 h1 h2 => hR v w2 h1 h2 (fun h => absurd h (by decide)); have hcon := hρ.con; have hfn := hρ.fn; clear hρ hp; unfold OpRun; go_simp; exact hR _ _ (Below.refl _ _) rfl)
  case o1 => (refine StepOKF.plain rfl ?_; intro ρ w1 R hρ hb hp hR; have e8 : ρ (.tmp 8) = _ := hp 0 8 rfl rfl; obtain ⟨ya9, yc9, yj9, yn9⟩ := ZV.below zQ hb; obtain ⟨j90, j91, -⟩ := yj9; replace hR := fun v w2 h1 h2 => hR v w2 h1 h2 (fun h => absurd h (by decide)); have hcon := hρ.con; have hfn := hρ.fn; clear hρ hp; unfold OpRun; go_simp; exact hR _ _ (Below.refl _ _) ⟨ya9, yc9, rfl, yn9⟩)
  case o2 => (refine StepOKF.plain rfl ?_; intro ρ w1 R hρ hb hp hR; have f9 := hp 1 9 rfl rfl; replace hR := fun v w2 h1 h2 => hR v w2 h1 h2 (fun h => absurd h (by decide)); have hcon := hρ.con; have hfn := hρ.fn; clear hρ hp; unfold OpRun; go_simp; (refine (zabsD _ _ _ f9).mono ?_; rintro e wn ⟨v9, rfl, hz9, hbn⟩; exact ⟨_, rfl, hR _ _ hbn hz9⟩))
  case o3 => (refine StepOKF.plain rfl ?_; intro ρ w1 R hρ hb hp hR; have e2 : ρ (.tmp 2) = .pointer (some ⟨g2, 0, none⟩) := hρ.tmp 2 rfl; replace hR := fun v w2 h1 h2 => hR v w2 h1 h2 (fun h => absurd h (by decide)); have hcon := hρ.con; have hfn := hρ.fn; clear hρ hp; unfold OpRun; go_simp; exact hR _ _ (Below.refl _ _) rfl)
  case o4 => (refine StepOKF.plain rfl ?_; intro ρ w1 R hρ hb hp hR; have e11 : ρ (.tmp 11) = _ := hp 3 11 rfl rfl; have j12 := (hb.cell (World.block_lt_of_cell? _ _ c2)).trans c2; replace hR := fun v w2 h1 h2 => hR v w2 h1 h2 (fun h => absurd h (by decide)); have hcon := hρ.con; have hfn := hρ.fn; clear hρ hp; unfold OpRun; go_simp; exact hR _ _ (Below.refl _ _) rfl)
  case o5 => (refine StepOKF.plain rfl ?_; intro ρ w1 R hρ hb hp hR; have e12 : ρ (.tmp 12) = _ := hp 4 12 rfl rfl; replace hR := fun v w2 h1 h2 => hR v w2 h1 h2 (fun h => absurd h (by decide)); have hcon := hρ.con; have hfn := hρ.fn; clear hρ hp; unfold OpRun; go_simp; (refine (zpowD n _ (by first | assumption | omega)).mono ?_; rintro e wn ⟨v9, rfl, hz9, hbn⟩; exact ⟨_, rfl, hR _ _ hbn hz9⟩))
  case o6 => (refine StepOKF.plain rfl ?_; intro ρ w1 R hρ hb hp hR; have hcon := hρ.con; have hfn := hρ.fn; clear hρ hp; unfold OpRun; go_simp; exact hR _ _ (below_alloc _ _) ⟨_, rfl, hb.size, ZL.made rfl⟩ (fun _ => ⟨_, rfl, Nat.le_refl _, by simp⟩))
  case o7 => (refine StepOKF.plain rfl ?_; intro ρ w1 R hρ hb hp hR; have hcon := hρ.con; have hfn := hρ.fn; clear hρ hp; unfold OpRun; go_simp; exact hR _ _ (below_alloc _ _) ⟨_, rfl, hb.size, ZL.made rfl⟩ (fun _ => ⟨_, rfl, Nat.le_refl _, by simp⟩))
  case after =>
    intro u wn hb hf hd
    have f10 := hf 2 10 (by omega) rfl
    have f13 := hf 5 13 (by omega) rfl
    have f6 := hf 6 6 (by omega) rfl
    have f7 := hf 7 7 (by omega) rfl
    have d6_7 : u 6 ≠ u 7 := hd 6 7 6 7 (by omega) (by omega) (by omega) rfl rfl rfl rfl
    clear hf hd
    simp only [putAll, Act.put, List.setIfInBounds_toArray, List.set_cons_zero, List.set_cons_succ, List.drop_succ_cons, List.drop_zero, List.drop_nil]
    obtain ⟨xa1, xc1, xe1, xn1⟩ := f10
    obtain ⟨xa2, xc2, xe2, xn2⟩ := f13
    obtain ⟨gv6, eg1, hg1, zz1⟩ := f6
    obtain ⟨gv7, eg2, hg2, zz2⟩ := f7
    have gne : gv6 ≠ gv7 := by intro h; apply d6_7; rw [eg1, eg2, h]
    rw [xe1, xe2, eg1, eg2]
    clear xe1 xe2 eg1 eg2 d6_7
    have zst := zv_store2 (by decide) hb hg1 hg2 gne zz1 zz2 xn1 xn2
    obtain ⟨k0, k1, kf0, kf1, -⟩ := id zz1
    obtain ⟨l0, l1, lf0, lf1, -⟩ := id zz2
    go_upto_region 2 with fail
    clear k0 k1 kf0 kf1 l0 l1 lf0 lf1 zz1 zz2 xn1 xn2 hb
    refine wp_worldZ (fun WW => Below _ _ WW ∧ ZV _ _ WW _ _ ∧ ZV _ _ WW _ _) zst ?_
    clear zst
    intro W2 ⟨y12, zv6, zv7⟩
    have y2 := below_trans yb1 y12
    have z4' := z4.below y12
    have z5' := z5.below y12
    have l4 := z4.lt
    have l5 := z5.lt
    have n47 : g4 ≠ gv7 := by omega
    have n46 : g4 ≠ gv6 := by omega
    have n57 : g5 ≠ gv7 := by omega
    have n56 : g5 ≠ gv6 := by omega
    clear z4 z5 zQ c2 yb1 y12 hg1 hg2 l4 l5
    go_upto_region 3 with fail
    refine wp_region_growM 5 4 [16, 17, 18, 19, 20] [Fact.z 3 ((X.natAbs : Int)), Fact.is (.int .i64 (p : Int)), Fact.z 3 (tenZ p), Fact.z 3 (((X.natAbs : Int)) * (tenZ p)), Fact.z 3 (pw n)] [] (by kernel_rfl) (by kernel_rfl) rfl ⟨?o0, ?o1, ?o2, ?o3, ?o4, trivial⟩ ?late ?after
    case o0 => (refine StepOKF.plain rfl ?_; intro ρ w1 R hρ hb hp hR; have e6 : ρ (.tmp 6) = .pointer (some ⟨gv6, 0, none⟩) := hρ.tmp 6 rfl; obtain ⟨ya9, yc9, yj9, yn9⟩ := ZV.below zv6 hb; obtain ⟨j90, j91, -⟩ := yj9; replace hR := fun v w2 h1 h2 => hR v w2 h1 h2 (fun h => absurd h (by decide)); have hcon := hρ.con; have hfn := hρ.fn; clear hρ hp; unfold OpRun; go_simp; exact hR _ _ (Below.refl _ _) ⟨ya9, yc9, rfl, yn9⟩)
    case o1 => (refine StepOKF.plain rfl ?_; intro ρ w1 R hρ hb hp hR; have e1 : ρ (.tmp 1) = .int .i64 (p : Int) := hρ.tmp 1 rfl; replace hR := fun v w2 h1 h2 => hR v w2 h1 h2 (fun h => absurd h (by decide)); have hcon := hρ.con; have hfn := hρ.fn; clear hρ hp; unfold OpRun; go_simp; exact hR _ _ (Below.refl _ _) rfl)
    case o2 => (refine StepOKF.plain rfl ?_; intro ρ w1 R hρ hb hp hR; have e17 : ρ (.tmp 17) = _ := hp 1 17 rfl rfl; replace hR := fun v w2 h1 h2 => hR v w2 h1 h2 (fun h => absurd h (by decide)); have hcon := hρ.con; have hfn := hρ.fn; clear hρ hp; unfold OpRun; go_simp; (refine (zTenD p _ (by first | assumption | omega)).mono ?_; rintro e wn ⟨v9, rfl, hz9, hbn⟩; exact ⟨_, rfl, hR _ _ hbn hz9⟩))
    case o3 => (refine StepOKF.plain rfl ?_; intro ρ w1 R hρ hb hp hR; have f16 := hp 0 16 rfl rfl; have f18 := hp 2 18 rfl rfl; replace hR := fun v w2 h1 h2 => hR v w2 h1 h2 (fun h => absurd h (by decide)); have hcon := hρ.con; have hfn := hρ.fn; clear hρ hp; unfold OpRun; go_simp; (refine (zmulD _ _ _ _ _ f16 f18 (by first | assumption | omega) (by first | assumption | omega)).mono ?_; rintro e wn ⟨v9, rfl, hz9, hbn⟩; exact ⟨_, rfl, hR _ _ hbn hz9⟩))
    case o4 => (refine StepOKF.plain rfl ?_; intro ρ w1 R hρ hb hp hR; have e7 : ρ (.tmp 7) = .pointer (some ⟨gv7, 0, none⟩) := hρ.tmp 7 rfl; obtain ⟨ya9, yc9, yj9, yn9⟩ := ZV.below zv7 hb; obtain ⟨j90, j91, -⟩ := yj9; replace hR := fun v w2 h1 h2 => hR v w2 h1 h2 (fun h => absurd h (by decide)); have hcon := hρ.con; have hfn := hρ.fn; clear hρ hp; unfold OpRun; go_simp; exact hR _ _ (Below.refl _ _) ⟨ya9, yc9, rfl, yn9⟩)
    case late =>
      intro o s ho hs
      simp only [List.getElem?_cons_succ, List.getElem?_cons_zero, Option.some.injEq] at ho hs
      subst ho
      subst hs
      intro ρ w1 hρ hb hp
      have e7 : ρ (.tmp 7) = .pointer (some ⟨gv7, 0, none⟩) := hρ.tmp 7 rfl
      have e4 : ρ (.tmp 4) = .pointer (some ⟨g4, 0, none⟩) := hρ.tmp 4 rfl
      have f19 := hp 3 19 (by omega) (by decide) rfl
      obtain ⟨ya, yc, yj, yn⟩ := zv7.below hb; obtain ⟨j0, j1, -⟩ := yj; obtain ⟨xa, xc, xe, xn⟩ := f19; obtain ⟨k0, k1, k2, k3, -⟩ := z4'.below hb
      have hcon := hρ.con
      refine ⟨.agg #[.bool (zneg (pw n)), .slice ya (zl (pw n)).length yc], (w1.setCell ⟨g4, 0, none⟩ (.bool (zneg (X.natAbs * tenZ p)))).setCell ⟨g4, 1, none⟩ (.slice xa (zl (X.natAbs * tenZ p)).length xc), ?_, ⟨ya, yc, rfl, yn⟩, ?_, ?_⟩
      all_goals (go_simp; try rfl)
    case after =>
      intro u wn hb hf hd
      have f19 := hf 3 19 (by omega) rfl
      have f20 := hf 4 20 (by omega) rfl
      clear hf hd
      simp only [putAll, Act.put, List.setIfInBounds_toArray, List.set_cons_zero, List.set_cons_succ, List.drop_succ_cons, List.drop_zero, List.drop_nil]
      obtain ⟨xa1, xc1, xe1, xn1⟩ := f19
      obtain ⟨xa2, xc2, xe2, xn2⟩ := f20
      rw [xe1, xe2]
      clear xe1 xe2
      have zz4 := z4'.below hb
      have zz5 := z5'.below hb
      obtain ⟨k0, k1, kf0, kf1, -⟩ := id zz4
      obtain ⟨l0, l1, lf0, lf1, -⟩ := id zz5
      have zst := zv_store2 (by decide) (below_trans y2 hb) b4 b5 n45 zz4 zz5 xn1 xn2
      go_wp2_with fail
      obtain ⟨hbw, ⟨a8, c8, zl8, n8⟩, ⟨a9, c9, zl9, n9⟩⟩ := zst
      obtain ⟨m0, m1, -⟩ := zl8
      obtain ⟨m2, m3, -⟩ := zl9
      refine bodyPost_ret (by simp [results, Tryz.results146, go_sem, m0, m1, m2, m3]; try rfl) rfl ?_
      exact ⟨_, rfl, ⟨_, _, _, _, rfl, n8, n9⟩, hbw⟩
theorem tenTimes_neg (X : Int) (n : Nat) (ao : Option Addr) (cap p : Nat) (w : World) (h0 : Nz 3 w ao cap (zl X)) (hX : (zl X).length ≤ 100000) (hn : n ≤ 100000) (hp : p ≤ 10000) (hp0 : 0 < p) :
    Calls Tryz.prog 146 #[.agg #[.bool (zneg X), .slice ao (zl X).length cap, .int .i64 (n : Int)], .int .i64 (-(p : Int))] w (RetZD2 3 w (X.natAbs : Int) (pw n * tenZ p)) := by
  have lt := Nat.le_trans (zl_len_ten p) (show p + 1 ≤ 100000000 by omega)
  have lP := Nat.le_trans (zl_len_pw n) (show n + 1 ≤ 100000000 by omega)
  have lX : (zl (X.natAbs : Int)).length ≤ 100000000 := by rw [zl_nat]; exact Nat.le_trans hX (by omega)
  have H0 := hid h0
  have hpn : ¬ 0 ≤ -(p : Int) := by omega
  clear h0
  go_enter Tryz.func146, Tryz.ntmps146
  go_upto_region 1 with fail
  refine wp_worldZ (fun WW => Below w.heap.size w WW ∧ ZV 41 3 WW w.heap.size X ∧ WW.cell? ⟨w.heap.size, 2, none⟩ = some (.int .i64 (n : Int)) ∧ ZL 39 WW (w.heap.size + 1) false (.slice none 0 0) ∧ ZL 39 WW (w.heap.size + 1 + 1) false (.slice none 0 0)) (tt_start 41 39 3 X n ao cap w H0.out) ?_
  intro W1 ⟨yb1, zQ, c2, z4, z5⟩
  obtain ⟨g5, hg5⟩ : ∃ g, g = w.heap.size + 1 + 1 := ⟨_, rfl⟩
  obtain ⟨g4, hg4⟩ : ∃ g, g = w.heap.size + 1 := ⟨_, rfl⟩
  obtain ⟨g2, hg2⟩ : ∃ g, g = w.heap.size := ⟨_, rfl⟩
  have b4 : w.heap.size ≤ g4 := by omega
  have b5 : w.heap.size ≤ g5 := by omega
  have n45 : g4 ≠ g5 := by omega
  rw [← hg5] at z5 ⊢
  rw [← hg4] at z4 ⊢
  rw [← hg2] at zQ c2
  rw [← hg2]
  clear hg2 hg4 hg5
  refine wp_region_growF 8 [8, 9, 10, 11, 12, 13, 6, 7] [Fact.is (.pointer (some ⟨g2, 0, none⟩)), Fact.z 3 (X), Fact.z 3 (((X).natAbs : Int)), Fact.is (.pointer (some ⟨g2, 2, none⟩)), Fact.is (.int .i64 (n : Int)), Fact.z 3 (pw n), Fact.z0 W1.heap.size 39, Fact.z0 W1.heap.size 39] [6, 7] (by kernel_rfl) (by kernel_rfl) ⟨?o0, ?o1, ?o2, ?o3, ?o4, ?o5, ?o6, ?o7, trivial⟩ ?after
  case o0 => (refine StepOKF.plain rfl ?_; intro ρ w1 R hρ hb hp hR; have e2 : ρ (.tmp 2) = .pointer (some ⟨g2, 0, none⟩) := hρ.tmp 2 rfl; replace hR := fun v w2 h1 h2 => hR v w2 h1 h2 (fun h => absurd h (by decide)); have hcon := hρ.con; have hfn := hρ.fn; clear hρ hp; unfold OpRun; go_simp; exact hR _ _ (Below.refl _ _) rfl)
  case o1 => (refine StepOKF.plain rfl ?_; intro ρ w1 R hρ hb hp hR; have e8 : ρ (.tmp 8) = _ := hp 0 8 rfl rfl; obtain ⟨ya9, yc9, yj9, yn9⟩ := ZV.below zQ hb; obtain ⟨j90, j91, -⟩ := yj9; replace hR := fun v w2 h1 h2 => hR v w2 h1 h2 (fun h => absurd h (by decide)); have hcon := hρ.con; have hfn := hρ.fn; clear hρ hp; unfold OpRun; go_simp; exact hR _ _ (Below.refl _ _) ⟨ya9, yc9, rfl, yn9⟩)
  case o2 => (refine StepOKF.plain rfl ?_; intro ρ w1 R hρ hb hp hR; have f9 := hp 1 9 rfl rfl; replace hR := fun v w2 h1 h2 => hR v w2 h1 h2 (fun h => absurd h (by decide)); have hcon := hρ.con; have hfn := hρ.fn; clear hρ hp; unfold OpRun; go_simp; (refine (zabsD _ _ _ f9).mono ?_; rintro e wn ⟨v9, rfl, hz9, hbn⟩; exact ⟨_, rfl, hR _ _ hbn hz9⟩))
  case o3 => (refine StepOKF.plain rfl ?_; intro ρ w1 R hρ hb hp hR; have e2 : ρ (.tmp 2) = .pointer (some ⟨g2, 0, none⟩) := hρ.tmp 2 rfl; replace hR := fun v w2 h1 h2 => hR v w2 h1 h2 (fun h => absurd h (by decide)); have hcon := hρ.con; have hfn := hρ.fn; clear hρ hp; unfold OpRun; go_simp; exact hR _ _ (Below.refl _ _) rfl)
  case o4 => (refine StepOKF.plain rfl ?_; intro ρ w1 R hρ hb hp hR; have e11 : ρ (.tmp 11) = _ := hp 3 11 rfl rfl; have j12 := (hb.cell (World.block_lt_of_cell? _ _ c2)).trans c2; replace hR := fun v w2 h1 h2 => hR v w2 h1 h2 (fun h => absurd h (by decide)); have hcon := hρ.con; have hfn := hρ.fn; clear hρ hp; unfold OpRun; go_simp; exact hR _ _ (Below.refl _ _) rfl)
  case o5 => (refine StepOKF.plain rfl ?_; intro ρ w1 R hρ hb hp hR; have e12 : ρ (.tmp 12) = _ := hp 4 12 rfl rfl; replace hR := fun v w2 h1 h2 => hR v w2 h1 h2 (fun h => absurd h (by decide)); have hcon := hρ.con; have hfn := hρ.fn; clear hρ hp; unfold OpRun; go_simp; (refine (zpowD n _ (by first | assumption | omega)).mono ?_; rintro e wn ⟨v9, rfl, hz9, hbn⟩; exact ⟨_, rfl, hR _ _ hbn hz9⟩))
  case o6 => (refine StepOKF.plain rfl ?_; intro ρ w1 R hρ hb hp hR; have hcon := hρ.con; have hfn := hρ.fn; clear hρ hp; unfold OpRun; go_simp; exact hR _ _ (below_alloc _ _) ⟨_, rfl, hb.size, ZL.made rfl⟩ (fun _ => ⟨_, rfl, Nat.le_refl _, by simp⟩))
  case o7 => (refine StepOKF.plain rfl ?_; intro ρ w1 R hρ hb hp hR; have hcon := hρ.con; have hfn := hρ.fn; clear hρ hp; unfold OpRun; go_simp; exact hR _ _ (below_alloc _ _) ⟨_, rfl, hb.size, ZL.made rfl⟩ (fun _ => ⟨_, rfl, Nat.le_refl _, by simp⟩))
  case after =>
    intro u wn hb hf hd
    have f10 := hf 2 10 (by omega) rfl
    have f13 := hf 5 13 (by omega) rfl
    have f6 := hf 6 6 (by omega) rfl
    have f7 := hf 7 7 (by omega) rfl
    have d6_7 : u 6 ≠ u 7 := hd 6 7 6 7 (by omega) (by omega) (by omega) rfl rfl rfl rfl
    clear hf hd
    simp only [putAll, Act.put, List.setIfInBounds_toArray, List.set_cons_zero, List.set_cons_succ, List.drop_succ_cons, List.drop_zero, List.drop_nil]
    obtain ⟨xa1, xc1, xe1, xn1⟩ := f10
    obtain ⟨xa2, xc2, xe2, xn2⟩ := f13
    obtain ⟨gv6, eg1, hg1, zz1⟩ := f6
    obtain ⟨gv7, eg2, hg2, zz2⟩ := f7
    have gne : gv6 ≠ gv7 := by intro h; apply d6_7; rw [eg1, eg2, h]
    rw [xe1, xe2, eg1, eg2]
    clear xe1 xe2 eg1 eg2 d6_7
    have zst := zv_store2 (by decide) hb hg1 hg2 gne zz1 zz2 xn1 xn2
    obtain ⟨k0, k1, kf0, kf1, -⟩ := id zz1
    obtain ⟨l0, l1, lf0, lf1, -⟩ := id zz2
    go_upto_region 2 with fail
    clear k0 k1 kf0 kf1 l0 l1 lf0 lf1 zz1 zz2 xn1 xn2 hb
    refine wp_worldZ (fun WW => Below _ _ WW ∧ ZV _ _ WW _ _ ∧ ZV _ _ WW _ _) zst ?_
    clear zst
    intro W2 ⟨y12, zv6, zv7⟩
    have y2 := below_trans yb1 y12
    have z4' := z4.below y12
    have z5' := z5.below y12
    have l4 := z4.lt
    have l5 := z5.lt
    have n47 : g4 ≠ gv7 := by omega
    have n46 : g4 ≠ gv6 := by omega
    have n57 : g5 ≠ gv7 := by omega
    have n56 : g5 ≠ gv6 := by omega
    clear z4 z5 zQ c2 yb1 y12 hg1 hg2 l4 l5
    go_upto_region 4 with fail
    refine wp_region_grow 6 [21, 22, 23, 24, 25, 26] [Fact.z 3 ((X.natAbs : Int)), Fact.z 3 (pw n), Fact.is (.int .i64 (-(p : Int))), Fact.is (.int .i64 (p : Int)), Fact.z 3 (tenZ p), Fact.z 3 ((pw n) * (tenZ p))] (by kernel_rfl) (by kernel_rfl) ⟨?o0, ?o1, ?o2, ?o3, ?o4, ?o5, trivial⟩ ?after
    case o0 => (refine StepOK.plain rfl ?_; intro ρ w1 R hρ hb hp hR; have e6 : ρ (.tmp 6) = .pointer (some ⟨gv6, 0, none⟩) := hρ.tmp 6 rfl; obtain ⟨ya9, yc9, yj9, yn9⟩ := ZV.below zv6 hb; obtain ⟨j90, j91, -⟩ := yj9; have hcon := hρ.con; have hfn := hρ.fn; clear hρ hp; unfold OpRun; go_simp; exact hR _ _ (Below.refl _ _) ⟨ya9, yc9, rfl, yn9⟩)
    case o1 => (refine StepOK.plain rfl ?_; intro ρ w1 R hρ hb hp hR; have e7 : ρ (.tmp 7) = .pointer (some ⟨gv7, 0, none⟩) := hρ.tmp 7 rfl; obtain ⟨ya9, yc9, yj9, yn9⟩ := ZV.below zv7 hb; obtain ⟨j90, j91, -⟩ := yj9; have hcon := hρ.con; have hfn := hρ.fn; clear hρ hp; unfold OpRun; go_simp; exact hR _ _ (Below.refl _ _) ⟨ya9, yc9, rfl, yn9⟩)
    case o2 => (refine StepOK.plain rfl ?_; intro ρ w1 R hρ hb hp hR; have e1 : ρ (.tmp 1) = .int .i64 (-(p : Int)) := hρ.tmp 1 rfl; have hcon := hρ.con; have hfn := hρ.fn; clear hρ hp; unfold OpRun; go_simp; exact hR _ _ (Below.refl _ _) rfl)
    case o3 => (refine StepOK.plain rfl ?_; intro ρ w1 R hρ hb hp hR; have e23 : ρ (.tmp 23) = _ := hp 2 23 rfl rfl; have hwp : IntKind.i64.wrap (p : Int) = (p : Int) := IntWalk.i64_in _ (by omega); have hcon := hρ.con; have hfn := hρ.fn; clear hρ hp; unfold OpRun; go_simp; exact hR _ _ (Below.refl _ _) rfl)
    case o4 => (refine StepOK.plain rfl ?_; intro ρ w1 R hρ hb hp hR; have e24 : ρ (.tmp 24) = _ := hp 3 24 rfl rfl; have hcon := hρ.con; have hfn := hρ.fn; clear hρ hp; unfold OpRun; go_simp; (refine (zTenD p _ (by first | assumption | omega)).mono ?_; rintro e wn ⟨v9, rfl, hz9, hbn⟩; exact ⟨_, rfl, hR _ _ hbn hz9⟩))
    case o5 => (refine StepOK.plain rfl ?_; intro ρ w1 R hρ hb hp hR; have f22 := hp 1 22 rfl rfl; have f25 := hp 4 25 rfl rfl; have hcon := hρ.con; have hfn := hρ.fn; clear hρ hp; unfold OpRun; go_simp; (refine (zmulD _ _ _ _ _ f22 f25 (by first | assumption | omega) (by first | assumption | omega)).mono ?_; rintro e wn ⟨v9, rfl, hz9, hbn⟩; exact ⟨_, rfl, hR _ _ hbn hz9⟩))
    case after =>
      intro u wn hb hf
      have f21 := hf 0 21 (by omega) rfl
      have f26 := hf 5 26 (by omega) rfl
      clear hf
      simp only [putAll, Act.put, List.setIfInBounds_toArray, List.set_cons_zero, List.set_cons_succ, List.drop_succ_cons, List.drop_zero, List.drop_nil]
      obtain ⟨xa1, xc1, xe1, xn1⟩ := f21
      obtain ⟨xa2, xc2, xe2, xn2⟩ := f26
      rw [xe1, xe2]
      clear xe1 xe2
      have zz4 := z4'.below hb
      have zz5 := z5'.below hb
      obtain ⟨k0, k1, kf0, kf1, -⟩ := id zz4
      obtain ⟨l0, l1, lf0, lf1, -⟩ := id zz5
      have zst := zv_store2 (by decide) (below_trans y2 hb) b4 b5 n45 zz4 zz5 xn1 xn2
      go_wp2_with fail
      obtain ⟨hbw, ⟨a8, c8, zl8, n8⟩, ⟨a9, c9, zl9, n9⟩⟩ := zst
      obtain ⟨m0, m1, -⟩ := zl8
      obtain ⟨m2, m3, -⟩ := zl9
      refine bodyPost_ret (by simp [results, Tryz.results146, go_sem, m0, m1, m2, m3]; try rfl) rfl ?_
      exact ⟨_, rfl, ⟨_, _, _, _, rfl, n8, n9⟩, hbw⟩
theorem tenTimes_any (v : Value) (D : Dy) (A T : Nat) (p : Int) (w : World) (hv : QD 3 w D A T v) (hA : A ≤ 100000) (hT : T ≤ 100000) (hp : -10000 ≤ p ∧ p ≤ 10000) :
    Calls Tryz.prog 146 #[v, .int .i64 p] w (RetTT 3 w D p) := by
  obtain ⟨X, n, ao, cap, rfl, hN, hD, hX, hn⟩ := hv
  have hr := nrm_ratio hD
  have lX := zl_len_bits X A hX
  have key : ∀ P : Nat, P ≤ 10000 → (zl (((X.natAbs * 10 ^ P : Nat)) : Int)).length ≤ 300000 ∧ (zl (((2 ^ n * 10 ^ P : Nat)) : Int)).length ≤ 300000 := by
    intro P hP
    have h1 : (10 : Nat) ^ P ≤ (2 ^ 4) ^ P := Nat.pow_le_pow_left (by decide) P
    rw [← Nat.pow_mul] at h1
    have h2 : 0 < 10 ^ P := Nat.pow_pos (by omega)
    constructor
    · refine Nat.le_trans (zl_len_bits _ (A + 4 * P) ?_) (by omega)
      rw [Int.natAbs_natCast, Nat.pow_add]
      exact Nat.lt_of_lt_of_le (Nat.mul_lt_mul_of_pos_right hX h2) (Nat.mul_le_mul_left _ h1)
    · refine Nat.le_trans (zl_len_bits _ (n + 1 + 4 * P) ?_) (by omega)
      rw [Int.natAbs_natCast, Nat.pow_add]
      exact Nat.lt_of_lt_of_le (Nat.mul_lt_mul_of_pos_right (Nat.pow_lt_pow_right (by omega) (Nat.lt_succ_self n)) h2) (Nat.mul_le_mul_left _ h1)
  by_cases h : 0 ≤ p
  · obtain ⟨P, rfl⟩ := Int.eq_ofNat_of_zero_le h
    obtain ⟨k1, -⟩ := key P (by omega)
    obtain ⟨-, k2⟩ := key 0 (by omega)
    rw [Nat.pow_zero, Nat.mul_one] at k2
    refine (tenTimes_pos X n ao cap P w hN (by omega) (by omega) (by omega)).mono ?_
    rintro e w' ⟨v, h1, h2, h3⟩
    refine ⟨X.natAbs * 10 ^ P, 2 ^ n, v, h1, ?_, Nat.two_pow_pos n, ?_, k1, k2, h3⟩
    · rw [Int.natCast_mul]; exact h2
    · unfold tnN
      rw [show (-(P : Int)).toNat = 0 by omega, Int.toNat_natCast, Nat.pow_zero, Nat.mul_one, Nat.mul_right_comm, hr, Nat.mul_right_comm]
  · obtain ⟨P, hP⟩ : ∃ P : Nat, p = -(P : Int) := ⟨(-p).toNat, by omega⟩
    subst hP
    obtain ⟨-, k1⟩ := key P (by omega)
    obtain ⟨k2, -⟩ := key 0 (by omega)
    rw [Nat.pow_zero, Nat.mul_one] at k2
    refine (tenTimes_neg X n ao cap P w hN (by omega) (by omega) (by omega) (by omega)).mono ?_
    rintro e w' ⟨v, h1, h2, h3⟩
    refine ⟨X.natAbs, 2 ^ n * 10 ^ P, v, h1, ?_, Nat.mul_pos (Nat.two_pow_pos n) (Nat.pow_pos (by omega)), ?_, k2, k1, h3⟩
    · rw [Int.natCast_mul]; exact h2
    · unfold tnN
      rw [show (-(P : Int)).toNat = 0 by omega, show (- -(P : Int)).toNat = P by omega, Nat.pow_zero, Nat.mul_one, ← Nat.mul_assoc, hr, Nat.mul_assoc]
end Go.Proofs.YthaelmnblgollaaGreatDoor
