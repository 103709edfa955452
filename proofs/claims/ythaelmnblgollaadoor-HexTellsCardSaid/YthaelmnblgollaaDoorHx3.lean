/- The reference's whole numbers as ints, digits of sixteen, the exponent's text, the power at the top. -/
import Derived.Test.YthaelmnblgollaaDoorHx2
import Derived.Test.YthaelmnblgollaaDoorZv
set_option linter.unusedVariables false
set_option linter.unusedSimpArgs false
namespace Go.Ulp
open Go.RowKit
theorem dval_drop_le (L : List Nat) (k : Nat) (h : k ≤ L.length) : dval (L.drop k) ≤ dval L := by
  have h1 := val_take_drop 10000 L k h
  have h2 : 0 < 10000 ^ k := Nat.pow_pos (by omega)
  have h3 : dval L = val 10000 (L.take k) + 10000 ^ k * val 10000 (L.drop k) := h1
  have h4 := Nat.le_mul_of_pos_left (val 10000 (L.drop k)) h2
  show val 10000 (L.drop k) ≤ _
  omega
/-- a variable of type Q: its parts by name, and what it is worth -/
def QW (tq ti : TypeId) (w : World) (g : Nat) (D : Dy) (A T : Nat) (X : Int) (n : Nat) (ao : Option Addr) (cap : Nat) : Prop :=
  QL tq w g (zneg X) (.slice ao (zl X).length cap) (n : Int) ∧ QD ti w D A T (.agg #[.bool (zneg X), .slice ao (zl X).length cap, .int .i64 (n : Int)])
theorem QW.below {tq ti : TypeId} {w w' : World} {g : Nat} {D : Dy} {A T : Nat} {X : Int} {n : Nat} {ao : Option Addr} {cap : Nat} (h : QW tq ti w g D A T X n ao cap) (hb : Below w.heap.size w w') : QW tq ti w' g D A T X n ao cap := ⟨h.1.below hb, h.2.below hb⟩
theorem QW.made {tq ti : TypeId} {w : World} {D : Dy} {A T : Nat} {X : Int} {n : Nat} {ao : Option Addr} {cap : Nat} (h : QD ti w D A T (.agg #[.bool (zneg X), .slice ao (zl X).length cap, .int .i64 (n : Int)])) :
    QW tq ti (w.alloc (.cells #[.bool (zneg X), .slice ao (zl X).length cap, .int .i64 (n : Int)] tq)) w.heap.size D A T X n ao cap := ⟨QL.made rfl, h.below (below_alloc _ _)⟩
theorem QW.cells {tq ti : TypeId} {w : World} {g : Nat} {D : Dy} {A T : Nat} {X : Int} {n : Nat} {ao : Option Addr} {cap : Nat} (h : QW tq ti w g D A T X n ao cap) :
    w.cell? ⟨g, 0, none⟩ = some (.bool (zneg X)) ∧ w.cell? ⟨g, 1, none⟩ = some (.slice ao (zl X).length cap) ∧ w.cell? ⟨g, 2, none⟩ = some (.int .i64 (n : Int)) := ⟨h.1.1.1, h.1.1.2.1, h.1.2.1⟩
theorem QW.qd {tq ti : TypeId} {w : World} {g : Nat} {D : Dy} {A T : Nat} {X : Int} {n : Nat} {ao : Option Addr} {cap : Nat} (h : QW tq ti w g D A T X n ao cap) : QD ti w D A T (.agg #[.bool (zneg X), .slice ao (zl X).length cap, .int .i64 (n : Int)]) := h.2
theorem QW.zv {tq ti : TypeId} {w : World} {g : Nat} {D : Dy} {A T : Nat} {X : Int} {n : Nat} {ao : Option Addr} {cap : Nat} (h : QW tq ti w g D A T X n ao cap) (hN : Nz ti w ao cap (zl X)) : ZV tq ti w g X := ⟨ao, cap, h.1.1, hN⟩
/-- bounds of a value's parts out of its worth -/
theorem QD.tight {t : TypeId} {w : World} {D : Dy} {A T : Nat} {v : Value} (h : QD t w D A T v) (a b : Nat) (ha : D.1.natAbs < 2 ^ a) (hb : D.2 ≤ b) : QD t w D (a + (T + b)) T v := by
  obtain ⟨x, n, ao, cap, h1, h2, h3, h4, h5⟩ := h
  refine ⟨x, n, ao, cap, h1, h2, h3, ?_, h5⟩
  obtain ⟨k, k1, k2⟩ := nrm_rep x (-(n : Int))
  rw [h3] at k1 k2
  by_cases hx : x = 0
  · rw [hx]; exact Nat.two_pow_pos _
  · have := k2 hx
    rw [k1, natAbs_mul_pw, Nat.pow_add]
    exact Nat.lt_of_lt_of_le (Nat.mul_lt_mul_of_pos_right ha (Nat.two_pow_pos _)) (Nat.mul_le_mul_left _ (Nat.pow_le_pow_right (by omega) (by omega)))
end Go.Ulp
namespace Go.Proofs.YthaelmnblgollaaDoor
open Go.RowKit Go.Ulp
set_option linter.unusedVariables false
set_option linter.unusedSimpArgs false
set_option maxHeartbeats 2000000
set_option maxRecDepth 100000
theorem zInt_any (x : Int) (a0 : Option Addr) (c0 : Nat) (w : World) (h0 : Nz 3 w a0 c0 (zl x)) (hx : -4611686018427387904 ≤ x ∧ x ≤ 4611686018427387904) :
    Calls Tryd.prog 25 #[.agg #[.bool (zneg x), .slice a0 (zl x).length c0]] w fun e w' => e = .returned (.int .i64 x) ∧ Below w.heap.size w w' := by
  have HL := hid (zl_dec x)
  have hcap := h0.1.1
  have hcap2 := h0.1.2.1
  unfold maxLen at hcap2
  have H3 := hid h0.1.2.2
  have HV := hid (dval_zl x)
  have hng : zneg x = decide (x < 0) := rfl
  obtain ⟨L, hL⟩ : ∃ L, L = zl x := ⟨_, rfl⟩
  rw [← hL] at HL H3 HV hcap ⊢
  obtain ⟨N, hN⟩ : ∃ N, N = L.length := ⟨_, rfl⟩
  have DS := hid (show ∀ i, i < N → dval (L.drop i) = L.getD i 0 + 10000 * dval (L.drop (i + 1)) from fun i hi => dval_drop L i (by omega))
  have DL := hid (show ∀ i, i ≤ N → dval (L.drop i) ≤ 4611686018427387904 from fun i hi => by have := dval_drop_le L i (by omega); have := HV.out; omega)
  have DE := hid (show dval (L.drop N) = 0 from by rw [List.drop_of_length_le (by omega)]; rfl)
  have D0 := hid (show dval (L.drop 0) = x.natAbs from by rw [List.drop_zero]; exact HV.out)
  rw [← hN] at H3 hcap ⊢
  have zA : ZL 32 (w.alloc (.cells #[.bool (zneg x), .slice a0 N c0] 32)) w.heap.size (zneg x) (.slice a0 N c0) := ZL.made rfl
  have yb := below_alloc w (.cells #[.bool (zneg x), .slice a0 N c0] 32)
  obtain ⟨W0, hW0⟩ : ∃ W, W = w.alloc (.cells #[.bool (zneg x), .slice a0 N c0] 32) := ⟨_, rfl⟩
  rw [← hW0] at zA yb
  have HC := hid (show ∀ i, i < N → ∃ b off, a0 = some ⟨b, off, none⟩ ∧ W0.cell? ⟨b, off + i, none⟩ = some (.int .i64 ((L.getD i 0 : Nat) : Int)) from fun i hi => by
    obtain ⟨b, off, e, hc⟩ := H3.out (by omega)
    exact ⟨b, off, e, (yb.cell (p := ⟨b, off + i, none⟩) (World.block_lt_of_cell? _ _ (hc i hi))).trans (hc i hi)⟩)
  obtain ⟨B, hB⟩ : ∃ b, b = zneg x := ⟨_, rfl⟩
  rw [← hB] at zA hW0 ⊢
  rw [hng] at hB
  have HB := hid hB
  clear h0 hL hN hng hB H3 HL HV
  go_enter Tryd.func25, Tryd.ntmps25
  go_upto_region 1 with fail
  rw [← hW0]
  clear hW0
  obtain ⟨j0, j1, -, -, -⟩ := id zA
  go_wp2_with fail
  go_loopw [3, 4] (fun s3 s4 wr => ∃ k : Int, -1 ≤ k ∧ k < N ∧ s4 = .int .i64 k ∧ s3 = .int .i64 (dval (L.drop (k + 1).toNat) : Int) ∧ wr = W0) (fun _ s4 _ => (intOf s4 + 1).toNat)
  case atStart => exact ⟨(N : Int) - 1, by omega, by omega, rfl, by rw [show ((N : Int) - 1 + 1).toNat = N by omega, DE.out]; rfl, rfl⟩
  case round =>
    obtain ⟨k, hk1, hk2, rfl, rfl, rfl⟩ := hrel
    by_cases hk : k < 0
    · have hcc : ¬ 0 ≤ k := by omega
      have hT : dval (L.drop (k + 1).toNat) = x.natAbs := by rw [show (k + 1).toNat = 0 by omega]; exact D0.out
      rw [hT]
      clear hT DS DL DE D0 HC hk1 hk2 hk
      obtain ⟨n, hn⟩ : ∃ n, n = x.natAbs := ⟨_, rfl⟩
      rw [← hn]
      have hn8 : n ≤ 4611686018427387904 := by omega
      have hw1 : IntKind.i64.wrap (-(n : Int)) = -(n : Int) := IntWalk.i64_in _ (by omega)
      have HF := hid (show x = if B = true then -(n : Int) else (n : Int) by
        rw [HB.out, hn]; by_cases h : x < 0
        · rw [decide_eq_true h, if_pos rfl]; omega
        · rw [decide_eq_false h, if_neg (by simp)]; omega)
      clear hn HB hx
      cases B
      · have HF2 := hid (show x = (n : Int) from HF.out)
        clear HF
        go_wp2_with fail
        go_ret
        exact ⟨by rw [HF2.out]; rfl, yb⟩
      · have HF2 := hid (show x = -(n : Int) from HF.out)
        clear HF
        go_wp2_with fail
        go_ret
        exact ⟨by rw [HF2.out]; rfl, yb⟩
    · obtain ⟨i, rfl⟩ := Int.eq_ofNat_of_zero_le (show 0 ≤ k by omega)
      obtain ⟨b, off, rfl, hcell⟩ := HC.out i (by omega)
      have hst := DS.out i (by omega)
      have hle := DL.out i (by omega)
      rw [show ((i : Int) + 1).toNat = i + 1 by omega]
      obtain ⟨d, hd⟩ : ∃ d, d = L.getD i 0 := ⟨_, rfl⟩
      obtain ⟨m, hm⟩ : ∃ m, m = dval (L.drop (i + 1)) := ⟨_, rfl⟩
      rw [← hd] at hcell hst
      rw [← hm] at hst ⊢
      have HST := hid hst
      have hb8 : d + 10000 * m ≤ 4611686018427387904 := by omega
      have hw1 : IntKind.i64.wrap (10000 * (m : Int)) = 10000 * (m : Int) := IntWalk.i64_in _ (by omega)
      have hw2 : IntKind.i64.wrap (10000 * (m : Int) + (d : Int)) = 10000 * (m : Int) + (d : Int) := IntWalk.i64_in _ (by omega)
      have hw3 : IntKind.i64.wrap ((i : Int) - 1) = (i : Int) - 1 := IntWalk.i64_in _ (by omega)
      clear hd hm hst hle DS DL DE D0 HC
      go_wp2_with fail
      go_roundw
      case rel => exact ⟨(i : Int) - 1, by omega, by omega, rfl, by rw [show ((i : Int) - 1 + 1).toNat = i by omega, HST.out]; congr 1; omega, by first | rfl | trivial⟩
      case measure => first | (simp [intOf]; done) | (simp [intOf]; omega)
theorem zIntD (v : Value) (x : Int) (w : World) (hv : ZD 3 w x v) (hx : -4611686018427387904 ≤ x ∧ x ≤ 4611686018427387904) : Calls Tryd.prog 25 #[v] w fun e w' => e = .returned (.int .i64 x) ∧ Below w.heap.size w w' := by
  obtain ⟨a, c, rfl, h⟩ := hv
  exact zInt_any x a c w h hx
theorem twoExp_any (p : Int) (hp : -30000 ≤ p ∧ p ≤ 30000) (w : World) :
    Calls Tryd.prog 37 #[.int .i64 p] w fun e w' => e = .returned (.string (bsOf (hxP p))) ∧ w = w' := by
  by_cases h : p < 0
  · have hw1 : IntKind.i64.wrap (-p) = -p := IntWalk.i64_in _ (by omega)
    obtain ⟨n, hn⟩ : ∃ n : Nat, -p = (n : Int) := ⟨p.natAbs, by omega⟩
    have hpn : p = -(n : Int) := by omega
    subst hpn
    have DG := hid (fun w => digits_any 5 n (by omega) (by omega) w)
    have hl := decD_len 5 n (by omega)
    have HR := hid (show hxP (-(n : Int)) = 112 :: 45 :: decD n by unfold hxP; rw [if_pos h]; congr 3; omega)
    have hA := add_bs (P := Tryd.prog) [112, 45] (decD n) (by simp; omega)
    have hb : (ByteArray.mk #[112, 45]) = bsOf [112, 45] := rfl
    generalize decD n = D at *
    have hnn : - -(n : Int) = (n : Int) := by omega
    go_enter Tryd.func37, Tryd.ntmps37
    go_wp2_with (go_at_call 58; (with_reducible refine (DG.out _).mono ?_); rintro en w1 ⟨rfl, rfl⟩)
    go_ret
    exact ⟨by rw [HR.out]; rfl, rfl⟩
  · obtain ⟨n, rfl⟩ := Int.eq_ofNat_of_zero_le (show 0 ≤ p by omega)
    have DG := hid (fun w => digits_any 5 n (by omega) (by omega) w)
    have hl := decD_len 5 n (by omega)
    have HR := hid (show hxP (n : Int) = 112 :: 43 :: decD n by unfold hxP; rw [if_neg h]; congr 3)
    have hA := add_bs (P := Tryd.prog) [112, 43] (decD n) (by simp; omega)
    have hb : (ByteArray.mk #[112, 43]) = bsOf [112, 43] := rfl
    generalize decD n = D at *
    go_enter Tryd.func37, Tryd.ntmps37
    go_wp2_with (go_at_call 58; (with_reducible refine (DG.out _).mono ?_); rintro en w1 ⟨rfl, rfl⟩)
    go_ret
    exact ⟨by rw [HR.out]; rfl, rfl⟩
theorem hx_cut (d : Nat) (hd : d < 16) (w : World) : (Instr.slice 9 (.string (ByteArray.mk #[48, 49, 50, 51, 52, 53, 54, 55, 56, 57, 97, 98, 99, 100, 101, 102])) (some (.int .i64 (d : Int))) (some (.int .i64 ((d : Int) + 1))) none).run Tryd.prog w = .ok (.string (bsOf [hxc d])) w := by
  have e1 : (d : Int).toNat = d := by omega
  have e2 : ((d : Int) + 1).toNat = d + 1 := by omega
  rw [run_slice_string w 9 _ _ _ _ _ Tryd.underlying9 (by omega) (by omega) (by show _ ≤ ((16 : Nat) : Int); omega), e1, e2, hx_str d hd]
  rfl
theorem sixteens_any (m n : Nat) (v : Value) (w : World) (hv : ZD 3 w (m : Int) v) (hl : (zl (m : Int)).length ≤ 900000) (hn : n ≤ 1000) :
    Calls Tryd.prog 10 #[v, .int .i64 (n : Int)] w fun e w' => e = .returned (.string (bsOf (hxD n m))) ∧ Below w.heap.size w w' := by
  obtain ⟨a0, c0, rfl, hN⟩ := hv
  have HL := hid (fun i => Nat.le_trans (zl_len_le (x := ((m / 16 ^ i : Nat) : Int)) (y := (m : Int)) (by rw [Int.natAbs_natCast, Int.natAbs_natCast]; exact Nat.div_le_self _ _)) hl)
  have zA0 := zv_made (tz := 32) hN w.heap.size rfl
  have yb0 := below_alloc w (.cells #[.bool (zneg (m : Int)), .slice a0 (zl (m : Int)).length c0] 32)
  go_enter Tryd.func10, Tryd.ntmps10
  go_upto_region 1 with fail
  refine wp_worldZ (fun WW => Below w.heap.size w WW ∧ ZV 32 3 WW w.heap.size (m : Int)) ⟨yb0, zA0⟩ ?_
  intro W1 ⟨y1, z2⟩
  obtain ⟨g2, hg2⟩ : ∃ g, g = w.heap.size := ⟨_, rfl⟩
  have b2 : w.heap.size ≤ g2 := by omega
  rw [← hg2] at z2 ⊢
  clear hg2 zA0 yb0 hN
  have Z2 := hid z2
  clear z2
  go_wp2_with fail
  go_loopw [5, 6, 7, 9] (fun s5 s6 s7 s9 wr => ∃ i : Nat, i ≤ n ∧ s9 = .int .i64 (i : Int) ∧ s5 = .string (bsOf (hxD i m)) ∧ ZV 32 3 wr g2 ((m / 16 ^ i : Nat) : Int) ∧ Below w.heap.size w wr) (fun _ _ _ s9 _ => n - (intOf s9).toNat)
  case atStart => exact ⟨0, by omega, rfl, rfl, by rw [Nat.pow_zero, Nat.div_one]; exact Z2.out, y1⟩
  case round =>
    obtain ⟨i, hi, rfl, rfl, z2, yr⟩ := hrel
    clear Z2 y1
    by_cases hin : i < n
    · have hl9 := HL.out i
      have HQ := hid (show m / 16 ^ (i + 1) = m / 16 ^ i / 16 by rw [Nat.pow_succ, Nat.div_div_eq_div_mul])
      have HD := hid (show hxD (i + 1) m = hxc (m / 16 ^ i % 16) :: hxD i m from rfl)
      have hTl := hxD_len i m
      obtain ⟨q, hq⟩ : ∃ q, q = m / 16 ^ i := ⟨_, rfl⟩
      obtain ⟨T, hT⟩ : ∃ T, T = hxD i m := ⟨_, rfl⟩
      rw [← hq] at hl9 HQ HD z2
      rw [← hT] at HD hTl ⊢
      clear hq hT
      have l16 : (zl 16).length ≤ 900000 := by decide
      obtain ⟨d, hd⟩ : ∃ d, d = q % 16 := ⟨_, rfl⟩
      have hd16 : d < 16 := by omega
      rw [← hd] at HD
      have HQD := hid (show (q : Int) % 16 = (d : Int) by omega)
      obtain ⟨r, hr⟩ : ∃ r, r = q / 16 := ⟨_, rfl⟩
      have HQQ := hid (show (q : Int) / 16 = (r : Int) by omega)
      rw [← hr] at HQ
      have ZI := hid (fun v w h => zIntD v (d : Int) w h (by omega))
      have hCU := hx_cut d hd16
      have hAD := add_bs (P := Tryd.prog) [hxc d] T (by simp; omega)
      clear hd hr
      go_upto_region 4 with fail
      obtain ⟨W4, hW4⟩ : ∃ W, W = wr := ⟨_, rfl⟩
      subst hW4
      refine wp_region_growL 8 5 [12, 13, 14, 11, 15, 16, 6, 7] [Fact.z 3 ((q : Int)), Fact.z 3 (16), Fact.z2 3 ((r : Int)) ((d : Int)), Fact.z2 3 ((r : Int)) ((d : Int)), Fact.z 3 ((r : Int)), Fact.z 3 ((d : Int)), Fact.z0 W4.heap.size 32, Fact.z0 W4.heap.size 32] [6, 7] (by kernel_rfl) (by kernel_rfl) rfl ⟨?o0, ?o1, ?o2, ?o3, ?o4, ?o5, ?o6, ?o7, trivial⟩ ?late (fun d _ _ _ _ h => by cases d <;> exact h) ?after
      case o0 => (refine StepOKF.plain rfl ?_; intro ρ w1 R hρ hb hp hR; have e2 : ρ (.tmp 2) = .pointer (some ⟨g2, 0, none⟩) := hρ.tmp 2 rfl; obtain ⟨ya9, yc9, yj9, yn9⟩ := ZV.below z2 hb; obtain ⟨j90, j91, -⟩ := yj9; replace hR := fun v w2 h1 h2 => hR v w2 h1 h2 (fun h => absurd h (by decide)); have hcon := hρ.con; have hfn := hρ.fn; clear hρ hp; unfold OpRun; go_simp; exact hR _ _ (Below.refl _ _) ⟨ya9, yc9, rfl, yn9⟩)
      case o1 => (refine StepOKF.plain rfl ?_; intro ρ w1 R hρ hb hp hR; replace hR := fun v w2 h1 h2 => hR v w2 h1 h2 (fun h => absurd h (by decide)); have hcon := hρ.con; have hfn := hρ.fn; clear hρ hp; unfold OpRun; go_simp; (refine (zND _ (by omega) (by omega) _).mono ?_; rintro e wn ⟨v9, rfl, hz9, hbn⟩; exact ⟨_, rfl, hR _ _ hbn hz9⟩))
      case o2 => (refine StepOKF.plain rfl ?_; intro ρ w1 R hρ hb hp hR; have f12 := hp 0 12 rfl rfl; have f13 := hp 1 13 rfl rfl; replace hR := fun v w2 h1 h2 => hR v w2 h1 h2 (fun h => absurd h (by decide)); have hcon := hρ.con; have hfn := hρ.fn; clear hρ hp; unfold OpRun; go_simp; (refine (zdivD _ _ _ _ _ f12 f13 (by first | assumption | omega) (by first | assumption | omega) (by first | assumption | omega)).mono ?_; rintro e wn ⟨v9, rfl, hz9, hbn⟩; exact ⟨_, rfl, hR _ _ hbn (by rw [← HQQ.out, ← HQD.out]; exact hz9)⟩))
      case o3 => (refine StepOKF.plain rfl ?_; intro ρ w1 R hρ hb hp hR; have f14 := hp 2 14 rfl rfl; replace hR := fun v w2 h1 h2 => hR v w2 h1 h2 (fun h => absurd h (by decide)); have hcon := hρ.con; have hfn := hρ.fn; clear hρ hp; unfold OpRun; go_simp; exact hR _ _ (Below.refl _ _) f14)
      case o4 => (refine StepOKF.plain rfl ?_; intro ρ w1 R hρ hb hp hR; have f11 := hp 3 11 rfl rfl; replace hR := fun v w2 h1 h2 => hR v w2 h1 h2 (fun h => absurd h (by decide)); have hcon := hρ.con; have hfn := hρ.fn; clear hρ hp; unfold OpRun; go_simp; (obtain ⟨a97, b97, e97, h97, k97⟩ := ZD2.parts f11; rw [e97]; exact hR _ _ (Below.refl _ _) h97))
      case o5 => (refine StepOKF.plain rfl ?_; intro ρ w1 R hρ hb hp hR; have f11 := hp 3 11 rfl rfl; replace hR := fun v w2 h1 h2 => hR v w2 h1 h2 (fun h => absurd h (by decide)); have hcon := hρ.con; have hfn := hρ.fn; clear hρ hp; unfold OpRun; go_simp; (obtain ⟨a97, b97, e97, h97, k97⟩ := ZD2.parts f11; rw [e97]; exact hR _ _ (Below.refl _ _) k97))
      case o6 => (refine StepOKF.plain rfl ?_; intro ρ w1 R hρ hb hp hR; have hcon := hρ.con; have hfn := hρ.fn; clear hρ hp; unfold OpRun; go_simp; exact hR _ _ (below_alloc _ _) ⟨_, rfl, hb.size, ZL.made rfl⟩ (fun _ => ⟨_, rfl, Nat.le_refl _, by simp⟩))
      case o7 => (refine StepOKF.plain rfl ?_; intro ρ w1 R hρ hb hp hR; have hcon := hρ.con; have hfn := hρ.fn; clear hρ hp; unfold OpRun; go_simp; exact hR _ _ (below_alloc _ _) ⟨_, rfl, hb.size, ZL.made rfl⟩ (fun _ => ⟨_, rfl, Nat.le_refl _, by simp⟩))
      case late =>
        intro o ho
        simp only [List.getElem?_cons_succ, List.getElem?_cons_zero, Option.some.injEq] at ho
        subst ho
        refine ⟨rfl, ?_⟩
        intro ρ w1 hρ hb hp
        have f11 := hp 3 11 rfl rfl
        obtain ⟨a97, b97, e97, h97, k97⟩ := ZD2.parts f11
        refine ⟨_, ?_, k97⟩
        intro w2
        have hcon := hρ.con
        go_simp
        try rfl
      case after =>
        intro u wn hb hf hd
        have f15 := hf 4 15 (by omega) rfl
        have f16 := hf 5 16 (by omega) rfl
        have f6 := hf 6 6 (by omega) rfl
        have f7 := hf 7 7 (by omega) rfl
        have d6_7 : u 6 ≠ u 7 := hd 6 7 6 7 (by omega) (by omega) (by omega) rfl rfl rfl rfl
        clear hf hd
        simp only [putAll, Act.put, List.setIfInBounds_toArray, List.set_cons_zero, List.set_cons_succ, List.drop_succ_cons, List.drop_zero, List.drop_nil]
        obtain ⟨xa1, xc1, xe1, xn1⟩ := f15
        obtain ⟨xa2, xc2, xe2, xn2⟩ := f16
        obtain ⟨gv6, eg1, hg1, zz1⟩ := f6
        obtain ⟨gv7, eg2, hg2, zz2⟩ := f7
        have gne : gv6 ≠ gv7 := by intro h; apply d6_7; rw [eg1, eg2, h]
        rw [xe1, xe2, eg1, eg2]
        clear xe1 xe2 eg1 eg2 d6_7
        have zst := zv_store2 (by decide) hb hg1 hg2 gne zz1 zz2 xn1 xn2
        obtain ⟨k0, k1, kf0, kf1, -⟩ := id zz1
        obtain ⟨l0, l1, lf0, lf1, -⟩ := id zz2
        go_upto_region 5 with fail
        clear k0 k1 kf0 kf1 l0 l1 lf0 lf1 zz1 zz2 xn1 xn2 hb
        refine wp_worldZ (fun WW => Below _ _ WW ∧ ZV _ _ WW _ _ ∧ ZV _ _ WW _ _) zst ?_
        clear zst
        intro W5 ⟨y5, z6, z7⟩
        have z2a := z2.below y5
        have ya := below_trans yr y5
        clear z2 yr y5 hg1 hg2 gne
        obtain ⟨W6, hW6⟩ : ∃ W, W = W5 := ⟨_, rfl⟩
        subst hW6
        have hwd : IntKind.i64.wrap ((d : Int) + 1) = (d : Int) + 1 := IntWalk.i64_in _ (by omega)
        refine wp_region_grow 8 [17, 18, 19, 20, 21, 22, 23, 24] [Fact.z 3 ((d : Int)), Fact.is (.int .i64 (d : Int)), Fact.z 3 ((d : Int)), Fact.is (.int .i64 (d : Int)), Fact.is (.int .i64 ((d : Int) + 1)), Fact.is (.string (bsOf [hxc d])), Fact.is (.string (bsOf T)), Fact.is (.string (bsOf (hxc d :: T)))] (by kernel_rfl) (by kernel_rfl) ⟨?o0, ?o1, ?o2, ?o3, ?o4, ?o5, ?o6, ?o7, trivial⟩ ?after
        case o0 => (refine StepOK.plain rfl ?_; intro ρ w1 R hρ hb hp hR; have e7 : ρ (.tmp 7) = .pointer (some ⟨gv7, 0, none⟩) := hρ.tmp 7 rfl; obtain ⟨ya9, yc9, yj9, yn9⟩ := ZV.below z7 hb; obtain ⟨j90, j91, -⟩ := yj9; have hcon := hρ.con; have hfn := hρ.fn; clear hρ hp; unfold OpRun; go_simp; exact hR _ _ (Below.refl _ _) ⟨ya9, yc9, rfl, yn9⟩)
        case o1 => (refine StepOK.plain rfl ?_; intro ρ w1 R hρ hb hp hR; have f17 := hp 0 17 rfl rfl; have hcon := hρ.con; have hfn := hρ.fn; clear hρ hp; unfold OpRun; go_simp; (refine (ZI.out _ _ f17).mono ?_; rintro e wn ⟨rfl, hbn⟩; exact ⟨_, rfl, hR _ _ hbn rfl⟩))
        case o2 => (refine StepOK.plain rfl ?_; intro ρ w1 R hρ hb hp hR; have e7 : ρ (.tmp 7) = .pointer (some ⟨gv7, 0, none⟩) := hρ.tmp 7 rfl; obtain ⟨ya9, yc9, yj9, yn9⟩ := ZV.below z7 hb; obtain ⟨j90, j91, -⟩ := yj9; have hcon := hρ.con; have hfn := hρ.fn; clear hρ hp; unfold OpRun; go_simp; exact hR _ _ (Below.refl _ _) ⟨ya9, yc9, rfl, yn9⟩)
        case o3 => (refine StepOK.plain rfl ?_; intro ρ w1 R hρ hb hp hR; have f19 := hp 2 19 rfl rfl; have hcon := hρ.con; have hfn := hρ.fn; clear hρ hp; unfold OpRun; go_simp; (refine (ZI.out _ _ f19).mono ?_; rintro e wn ⟨rfl, hbn⟩; exact ⟨_, rfl, hR _ _ hbn rfl⟩))
        case o4 => (refine StepOK.plain rfl ?_; intro ρ w1 R hρ hb hp hR; have e20 : ρ (.tmp 20) = _ := hp 3 20 rfl rfl; have hcon := hρ.con; have hfn := hρ.fn; clear hρ hp; unfold OpRun; go_simp; exact hR _ _ (Below.refl _ _) rfl)
        case o5 => (refine StepOK.plain rfl ?_; intro ρ w1 R hρ hb hp hR; have e18 : ρ (.tmp 18) = _ := hp 1 18 rfl rfl; have e21 : ρ (.tmp 21) = _ := hp 4 21 rfl rfl; have hcon := hρ.con; have hfn := hρ.fn; clear hρ hp; unfold OpRun; go_simp; exact hR _ _ (Below.refl _ _) rfl)
        case o6 => (refine StepOK.plain rfl ?_; intro ρ w1 R hρ hb hp hR; have e5 : ρ (.tmp 5) = .string (bsOf T) := hρ.tmp 5 rfl; have hcon := hρ.con; have hfn := hρ.fn; clear hρ hp; unfold OpRun; go_simp; exact hR _ _ (Below.refl _ _) rfl)
        case o7 => (refine StepOK.plain rfl ?_; intro ρ w1 R hρ hb hp hR; have e22 : ρ (.tmp 22) = _ := hp 5 22 rfl rfl; have e23 : ρ (.tmp 23) = _ := hp 6 23 rfl rfl; have hcon := hρ.con; have hfn := hρ.fn; clear hρ hp; unfold OpRun; go_simp; exact hR _ _ (Below.refl _ _) rfl)
        case after =>
          intro u wn hb hf
          have e24 : u 24 = _ := hf 7 24 (by omega) rfl
          clear hf
          simp only [putAll, Act.put, List.setIfInBounds_toArray, List.set_cons_zero, List.set_cons_succ, List.drop_succ_cons, List.drop_zero, List.drop_nil]
          rw [e24]
          have yb := below_trans ya hb
          obtain ⟨a6, c6, zl6, n6⟩ := z6.below hb
          obtain ⟨a2, c2, zl2, n2⟩ := z2a.below hb
          have zst := zv_store1 (by decide) yb b2 zl2 n6
          obtain ⟨j0, j1, -⟩ := zl6
          obtain ⟨k0, k1, kf0, kf1, -⟩ := id zl2
          clear z6 z7 z2a hb ya n2
          go_wp2_with fail
          go_roundw
          case rel => exact ⟨i + 1, by omega, by go_num, by rw [HD.out], by rw [HQ.out]; exact zst.2, zst.1⟩
          case measure => first | (simp [intOf]; done) | (simp [intOf]; omega)
    · have hin2 : i = n := by omega
      subst hin2
      go_wp2_with fail
      go_ret
      exact ⟨rfl, yr⟩
theorem topBit_any (v : Value) (D : Dy) (A T : Nat) (w : World) (hv : QD 3 w D A T v) (hA : A ≤ 1000000) (hT : T ≤ 1000000) (hD : D.1 ≠ 0) (hk : -3000 ≤ hfK D ∧ hfK D ≤ 1030) :
    Calls Tryd.prog 28 #[v] w fun e w' => e = .returned (.int .i64 (hfK D)) ∧ Below w.heap.size w w' := by
  have QAb := hid (fun v w h => qabs_any v D A T w h (by omega) (by omega))
  have ZN1 := hid (zN_any 1 (by omega))
  have QM := hid (fun k (h : -3000 ≤ k ∧ k ≤ 1030) a c w h0 => qmake_any a c 1 k 2 3000 w h0 (by decide) (by omega) (by omega) (by omega))
  have QC := hid (fun k v u w k0 k1 => qcmp_any v u (nrm 1 k) (absD D) (2 + 3000) 3000 A T w k0 k1 (by omega) (by omega) (by omega) (by omega))
  have CT := hid (fun k => cmp_top2 D k hD)
  obtain ⟨K, hK⟩ : ∃ K, K = hfK D := ⟨_, rfl⟩
  rw [← hK] at hk CT ⊢
  obtain ⟨X, n, ao, cap, rfl, hN, hDX⟩ := hv
  have hQ : QD 3 w D A T (.agg #[.bool (zneg X), .slice ao (zl X).length cap, .int .i64 (n : Int)]) := ⟨X, n, ao, cap, rfl, hN, hDX⟩
  have q0 := QW.made (tq := 53) hQ
  have yb0 := below_alloc w (.cells #[.bool (zneg X), .slice ao (zl X).length cap, .int .i64 (n : Int)] 53)
  clear hN hDX hK hQ hD
  go_enter Tryd.func28, Tryd.ntmps28
  go_upto_region 1 with fail
  refine wp_worldZ (fun WW => Below w.heap.size w WW ∧ QW 53 3 WW w.heap.size D A T X n ao cap) ⟨yb0, q0⟩ ?_
  intro W1 ⟨y1, q1⟩
  obtain ⟨g1, hg1⟩ : ∃ g, g = w.heap.size := ⟨_, rfl⟩
  rw [← hg1] at q1 ⊢
  clear hg1 q0 yb0
  have Q1 := hid q1
  clear q1
  go_wp2_with fail
  go_loopw [3] (fun s3 wr => ∃ k : Int, K ≤ k ∧ k ≤ 1030 ∧ s3 = .int .i64 k ∧ QW 53 3 wr g1 D A T X n ao cap ∧ Below w.heap.size w wr) (fun s3 _ => (intOf s3 + 5000).toNat)
  case atStart => exact ⟨1030, by omega, by omega, rfl, Q1.out, y1⟩
  case round =>
    obtain ⟨k, hk1, hk2, rfl, q1, yr⟩ := hrel
    clear Q1 y1
    have QM1 := hid (fun a c w h0 => QM.out k (by omega) a c w h0)
    have QC1 := hid (QC.out k)
    have CT1 := hid (CT.out k)
    clear QM QC CT
    obtain ⟨c, hc⟩ : ∃ c, c = cmpD (nrm 1 k) (absD D) := ⟨_, rfl⟩
    rw [← hc] at QC1 CT1
    obtain ⟨E, hE⟩ : ∃ E, E = nrm 1 k := ⟨_, rfl⟩
    rw [← hE] at QM1 QC1
    obtain ⟨b, hb0⟩ : ∃ b, b = decide (0 < c) := ⟨_, rfl⟩
    have HB1 := hid (show b = decide (K < k) by rw [hb0, decide_eq_decide]; exact CT1.out)
    clear hc hE CT1
    obtain ⟨W4, hW4⟩ : ∃ W, W = wr := ⟨_, rfl⟩
    subst hW4
    have HB0 := hid hb0.symm
    clear hb0
    go_upto_region 2 with fail
    refine wp_region_grow 7 [4, 5, 6, 7, 8, 9, 10] [Fact.z 3 1, Fact.is (.int .i64 k), Fact.q 3 E (2 + 3000) 3000, Fact.is (.agg #[.bool (zneg X), .slice ao (zl X).length cap, .int .i64 (n : Int)]), Fact.q 3 (absD D) A T, Fact.is (.int .i64 c), Fact.is (.bool b)] (by kernel_rfl) (by kernel_rfl) ⟨?o0, ?o1, ?o2, ?o3, ?o4, ?o5, ?o6, trivial⟩ ?after
    case o0 => (refine StepOK.plain rfl ?_; intro ρ w1 R hρ hb hp hR; have hcon := hρ.con; have hfn := hρ.fn; clear hρ hp; unfold OpRun; go_simp; (refine (ZN1.out _).mono ?_; rintro e wn ⟨az, cz, rfl, hz9, hbn⟩; exact ⟨_, rfl, hR _ _ hbn ⟨az, cz, rfl, hz9⟩⟩))
    case o1 => (refine StepOK.plain rfl ?_; intro ρ w1 R hρ hb hp hR; have e3 : ρ (.tmp 3) = .int .i64 k := hρ.tmp 3 rfl; have hcon := hρ.con; have hfn := hρ.fn; clear hρ hp; unfold OpRun; go_simp; exact hR _ _ (Below.refl _ _) rfl)
    case o2 => (refine StepOK.plain rfl ?_; intro ρ w1 R hρ hb hp hR; have f4 := hp 0 4 rfl rfl; have e5 : ρ (.tmp 5) = _ := hp 1 5 rfl rfl; obtain ⟨a4, c4, e4, hz4⟩ := f4; have hcon := hρ.con; have hfn := hρ.fn; clear hρ hp; unfold OpRun; go_simp; (skip; refine (QM1.out _ _ _ hz4).mono ?_; rintro e wn ⟨v9, rfl, hv9, hbn⟩; exact ⟨_, rfl, hR _ _ hbn hv9⟩))
    case o3 => (refine StepOK.plain rfl ?_; intro ρ w1 R hρ hb hp hR; have e1 : ρ (.tmp 1) = .pointer (some ⟨g1, 0, none⟩) := hρ.tmp 1 rfl; obtain ⟨j0, j1, j2⟩ := (q1.below hb).cells; have hcon := hρ.con; have hfn := hρ.fn; clear hρ hp; unfold OpRun; go_simp; exact hR _ _ (Below.refl _ _) rfl)
    case o4 => (refine StepOK.plain rfl ?_; intro ρ w1 R hρ hb hp hR; have e7 : ρ (.tmp 7) = _ := hp 3 7 rfl rfl; have hcon := hρ.con; have hfn := hρ.fn; clear hρ hp; unfold OpRun; go_simp; (refine (QAb.out _ _ (q1.below hb).2).mono ?_; rintro e wn ⟨v9, rfl, hv9, hbn⟩; exact ⟨_, rfl, hR _ _ hbn hv9⟩))
    case o5 => (refine StepOK.plain rfl ?_; intro ρ w1 R hρ hb hp hR; have f6 := hp 2 6 rfl rfl; have f8 := hp 4 8 rfl rfl; have hcon := hρ.con; have hfn := hρ.fn; clear hρ hp; unfold OpRun; go_simp; (refine (QC1.out _ _ _ f6 f8).mono ?_; rintro e wn ⟨rfl, hbn⟩; exact ⟨_, rfl, hR _ _ hbn rfl⟩))
    case o6 => (refine StepOK.plain rfl ?_; intro ρ w1 R hρ hb hp hR; have e9 : ρ (.tmp 9) = _ := hp 5 9 rfl rfl; have hx9 := HB0.out; have hcon := hρ.con; have hfn := hρ.fn; clear hρ hp; unfold OpRun; go_simp; exact hR _ _ (Below.refl _ _) rfl)
    case after =>
      intro u wn hb hf
      have e10 : u 10 = _ := hf 6 10 (by omega) rfl
      clear hf
      simp only [putAll, Act.put, List.setIfInBounds_toArray, List.set_cons_zero, List.set_cons_succ, List.drop_succ_cons, List.drop_zero, List.drop_nil]
      rw [e10]
      have q2 := q1.below hb
      have y2 := below_trans yr hb
      have hb1 := HB1.out
      clear q1 yr hb
      by_cases hlt : K < k
      · rw [decide_eq_true hlt] at hb1
        subst hb1
        have hw1 : IntKind.i64.wrap (k - 1) = k - 1 := IntWalk.i64_in _ (by omega)
        go_wp2_with fail
        go_roundw
        case rel => exact ⟨k - 1, by omega, by omega, rfl, q2, y2⟩
        case measure => first | (simp [intOf]; done) | (simp [intOf]; omega)
      · rw [decide_eq_false hlt] at hb1
        subst hb1
        have hkk : k = K := by omega
        subst hkk
        go_wp2_with fail
        go_ret
        exact ⟨rfl, y2⟩
end Go.Proofs.YthaelmnblgollaaDoor
