/- The reference's ReadBits: the closure that compares. -/
import Derived.Test.YthaelmnblgollaaGreatDoorRe9
import Derived.Test.YthaelmnblgollaaGreatDoorTx5
import Derived.Test.YthaelmnblgollaaGreatDoorRe7
import Derived.Test.YthaelmnblgollaaGreatDoorHp
set_option linter.unusedVariables false
set_option linter.unusedSimpArgs false
namespace Go.Proofs.YthaelmnblgollaaGreatDoor
open Go.RowKit Go.Ulp
set_option linter.unusedVariables false
set_option linter.unusedSimpArgs false
set_option maxHeartbeats 2000000
set_option maxRecDepth 100000
theorem zDigits_any (L : List UInt8) (w : World) (hL : AllDg L) (hl : L.length ≤ 2000) :
    Calls Tryz.prog 111 #[.string (bsOf L)] w (RetZD 3 w ((dvl L : Nat) : Int)) := by
  obtain ⟨V, hV⟩ : ∃ V, V = dvl L := ⟨_, rfl⟩
  rw [← hV]
  have hsz := bs_size L
  go_enter Tryz.func111, Tryz.ntmps111
  go_upto_region 2 with fail
  have n0 : ∀ w, Nz 3 w none 0 (zl 0) := fun w => Nz.nil' none 0 (by decide)
  have zz := zv_made2 (tz := 39) (ti := 3) (w := w) (x := 0) (y := 0) (n0 _) (n0 _)
  refine wp_worldZ (fun WW => Below w.heap.size w WW ∧ ZV 39 3 WW w.heap.size 0 ∧ ZV 39 3 WW (w.heap.size + 1) 0) ⟨zz.1, zz.2.1, by first | exact zz.2.2 | (have h := zz.2.2; simpa using h)⟩ ?_
  intro W1 ⟨y1, z2, z3⟩
  obtain ⟨g2, hg2⟩ : ∃ g, g = w.heap.size := ⟨_, rfl⟩
  obtain ⟨g3, hg3⟩ : ∃ g, g = w.heap.size + 1 := ⟨_, rfl⟩
  have b2 : w.heap.size ≤ g2 := by omega
  have b3 : w.heap.size ≤ g3 := by omega
  have gne : g2 ≠ g3 := by omega
  rw [← hg3] at z3 ⊢
  rw [← hg2] at z2 ⊢
  clear hg2 hg3 zz n0
  have Z2 := hid z2
  have Z3 := hid z3
  clear z2 z3
  have HVL := hid hV
  obtain ⟨E, hE⟩ : ∃ E : Nat, E = 2000 := ⟨_, rfl⟩
  have HL10 := hid (fun q (h : q < 10 ^ E) => Nat.le_trans (zl_len_le (x := ((q : Nat) : Int)) (y := tenZ E) (by unfold tenZ; rw [Int.natAbs_natCast, Int.natAbs_natCast]; omega)) (zl_len_ten E))
  clear hV
  go_wp2_with fail
  go_loopw [4, 8] (fun s4 s8 wr => ∃ (j q : Nat), s8 = .int .i64 (j : Int) ∧ j ≤ L.length ∧ dvA q (L.drop j) = V ∧ q < 10 ^ (E - (L.length - j)) ∧ ZV 39 3 wr g2 0 ∧ ZV 39 3 wr g3 (q : Int) ∧ Below w.heap.size w wr) (fun _ s8 _ => L.length - (intOf s8).toNat)
  case atStart => exact ⟨0, 0, rfl, by omega, HVL.out.symm, Nat.pow_pos (by omega), Z2.out, Z3.out, y1⟩
  case round =>
    obtain ⟨j, q, rfl, hj, hq, hqb, z2, z3, yr⟩ := hrel
    clear Z2 Z3 y1
    cases hd : L.drop j with
    | nil =>
      have g1 : ¬ (j : Int) < (L.length : Int) := by
        have := congrArg List.length hd
        rw [List.length_drop, List.length_nil] at this; omega
      rw [hd] at hq
      have e : q = V := hq
      subst e
      obtain ⟨a3, c3, zl3, n3⟩ := z3
      obtain ⟨a2, c2, zl2, n2⟩ := z2
      have zst := zv_store1 (by decide) yr b2 zl2 n3
      obtain ⟨j0, j1, -⟩ := zl3
      obtain ⟨k0, k1, kf0, kf1, kk⟩ := id zl2
      have HS := hid zst
      clear hd hq hqb zst
      go_wp2_with fail
      have zst := HS.out
      obtain ⟨a9, c9, zl9, n9⟩ := id zst.2
      obtain ⟨m0, m1, -⟩ := id zl9
      refine bodyPost_ret (by simp [results, Tryz.results111, go_sem, m0, m1]; try rfl) rfl ?_
      exact ⟨_, rfl, ⟨a9, c9, rfl, n9⟩, zst.1⟩
    | cons b r =>
      obtain ⟨q1, q2, -⟩ := drop_cons hd
      have hix := run_index (P := Tryz.prog) Tryz.underlying9 L j b r hd
      have hbd := dg_bd (hL b (List.mem_of_mem_drop (by rw [hd]; exact List.mem_cons_self ..)))
      rw [hd, dvA_cons] at hq
      obtain ⟨d, hdd⟩ : ∃ d : Nat, d = b.toNat - 48 := ⟨_, rfl⟩
      rw [← hdd] at hq
      obtain ⟨x, hx⟩ : ∃ x : Int, x = (b.toNat : Int) := ⟨_, rfl⟩
      rw [← hx] at hix
      have wB : IntKind.u8.wrap (x - 48) = (d : Int) := by rw [IntKind.wrap_u8]; omega
      have wC : IntKind.i64.wrap (d : Int) = (d : Int) := IntWalk.i64_in _ (by omega)
      have wI : IntKind.i64.wrap ((j : Int) + 1) = (j : Int) + 1 := IntWalk.i64_in _ (by omega)
      have hqb2 : q * 10 + d < 10 ^ (E - (L.length - (j + 1))) := by
        have h1 : (q + 1) * 10 ≤ 10 ^ (E - (L.length - j)) * 10 := Nat.mul_le_mul_right _ hqb
        rw [← Nat.pow_succ, show (E - (L.length - j)).succ = E - (L.length - (j + 1)) by omega] at h1
        omega
      have hpe : 10 ^ (E - (L.length - (j + 1))) ≤ 10 ^ E := Nat.pow_le_pow_right (by omega) (by omega)
      have lq := HL10.out q (by omega)
      have lq2 : (zl ((q : Int) * 10)).length ≤ E + 1 := by
        have h := HL10.out (q * 10) (by omega)
        rw [Int.natCast_mul] at h
        exact h
      have ld : (zl (d : Int)).length ≤ 2001 := Nat.le_trans (HL10.out d (by omega)) (by omega)
      have HQ := hid (show dvA (q * 10 + d) (L.drop (j + 1)) = V by rw [q2]; exact hq)
      have HQB := hid hqb2
      have l10 : (zl 10).length ≤ 900000 := by decide
      have hd10 : d < 10 := by omega
      clear hd hq hqb hqb2 hpe hbd hx hdd q2
      go_upto_region 5 with fail
      obtain ⟨W4, hW4⟩ : ∃ W, W = wr := ⟨_, rfl⟩
      subst hW4
      refine wp_region_grow 10 [11, 12, 13, 14, 15, 16, 17, 18, 19, 20] [Fact.z 3 ((q : Int)), Fact.z 3 (10), Fact.z 3 (((q : Int)) * (10)), Fact.is (.string (bsOf L)), Fact.is (.int .i64 (j : Int)), Fact.is (.int .u8 x), Fact.is (.int .u8 (d : Int)), Fact.is (.int .i64 (d : Int)), Fact.z 3 ((d : Int)), Fact.z 3 ((((q : Int)) * (10)) + ((d : Int)))] (by kernel_rfl) (by kernel_rfl) ⟨?o0, ?o1, ?o2, ?o3, ?o4, ?o5, ?o6, ?o7, ?o8, ?o9, trivial⟩ ?after
      case o0 => (refine StepOK.plain rfl ?_; intro ρ w1 R hρ hb hp hR; have e3 : ρ (.tmp 3) = .pointer (some ⟨g3, 0, none⟩) := hρ.tmp 3 rfl; obtain ⟨ya9, yc9, yj9, yn9⟩ := ZV.below z3 hb; obtain ⟨j90, j91, -⟩ := yj9; have hcon := hρ.con; have hfn := hρ.fn; clear hρ hp; unfold OpRun; go_simp; exact hR _ _ (Below.refl _ _) ⟨ya9, yc9, rfl, yn9⟩)
      case o1 => (refine StepOK.plain rfl ?_; intro ρ w1 R hρ hb hp hR; have hcon := hρ.con; have hfn := hρ.fn; clear hρ hp; unfold OpRun; go_simp; (refine (zND _ (by omega) (by omega) _).mono ?_; rintro e wn ⟨v9, rfl, hz9, hbn⟩; exact ⟨_, rfl, hR _ _ hbn hz9⟩))
      case o2 => (refine StepOK.plain rfl ?_; intro ρ w1 R hρ hb hp hR; have f11 := hp 0 11 rfl rfl; have f12 := hp 1 12 rfl rfl; have hcon := hρ.con; have hfn := hρ.fn; clear hρ hp; unfold OpRun; go_simp; (refine (zmulD _ _ _ _ _ f11 f12 (by first | assumption | omega) (by first | assumption | omega)).mono ?_; rintro e wn ⟨v9, rfl, hz9, hbn⟩; exact ⟨_, rfl, hR _ _ hbn hz9⟩))
      case o3 => (refine StepOK.plain rfl ?_; intro ρ w1 R hρ hb hp hR; have e0 : ρ (.tmp 0) = .string (bsOf L) := hρ.tmp 0 rfl; have hcon := hρ.con; have hfn := hρ.fn; clear hρ hp; unfold OpRun; go_simp; exact hR _ _ (Below.refl _ _) rfl)
      case o4 => (refine StepOK.plain rfl ?_; intro ρ w1 R hρ hb hp hR; have e4 : ρ (.tmp 4) = .int .i64 (j : Int) := hρ.tmp 4 rfl; have hcon := hρ.con; have hfn := hρ.fn; clear hρ hp; unfold OpRun; go_simp; exact hR _ _ (Below.refl _ _) rfl)
      case o5 => (refine StepOK.plain rfl ?_; intro ρ w1 R hρ hb hp hR; have e14 : ρ (.tmp 14) = _ := hp 3 14 rfl rfl; have e15 : ρ (.tmp 15) = _ := hp 4 15 rfl rfl; have hcon := hρ.con; have hfn := hρ.fn; clear hρ hp; unfold OpRun; go_simp; exact hR _ _ (Below.refl _ _) rfl)
      case o6 => (refine StepOK.plain rfl ?_; intro ρ w1 R hρ hb hp hR; have e16 : ρ (.tmp 16) = _ := hp 5 16 rfl rfl; have hcon := hρ.con; have hfn := hρ.fn; clear hρ hp; unfold OpRun; go_simp; exact hR _ _ (Below.refl _ _) rfl)
      case o7 => (refine StepOK.plain rfl ?_; intro ρ w1 R hρ hb hp hR; have e17 : ρ (.tmp 17) = _ := hp 6 17 rfl rfl; have hcon := hρ.con; have hfn := hρ.fn; clear hρ hp; unfold OpRun; go_simp; exact hR _ _ (Below.refl _ _) rfl)
      case o8 => (refine StepOK.plain rfl ?_; intro ρ w1 R hρ hb hp hR; have e18 : ρ (.tmp 18) = _ := hp 7 18 rfl rfl; have hcon := hρ.con; have hfn := hρ.fn; clear hρ hp; unfold OpRun; go_simp; (refine (zND _ (by omega) (by omega) _).mono ?_; rintro e wn ⟨v9, rfl, hz9, hbn⟩; exact ⟨_, rfl, hR _ _ hbn hz9⟩))
      case o9 => (refine StepOK.plain rfl ?_; intro ρ w1 R hρ hb hp hR; have f13 := hp 2 13 rfl rfl; have f19 := hp 8 19 rfl rfl; have hcon := hρ.con; have hfn := hρ.fn; clear hρ hp; unfold OpRun; go_simp; (refine (zaddD _ _ _ _ _ f13 f19 (by first | assumption | omega) (by first | assumption | omega)).mono ?_; rintro e wn ⟨v9, rfl, hz9, hbn⟩; exact ⟨_, rfl, hR _ _ hbn hz9⟩))
      case after =>
        intro u wn hb hf
        have f20 := hf 9 20 (by omega) rfl
        clear hf
        simp only [putAll, Act.put, List.setIfInBounds_toArray, List.set_cons_zero, List.set_cons_succ, List.drop_succ_cons, List.drop_zero, List.drop_nil]
        obtain ⟨a6, c6, e20, n6⟩ := f20
        rw [e20]
        have yb := below_trans yr hb
        have z2a := z2.below hb
        obtain ⟨a3, c3, zl3, n3⟩ := z3.below hb
        have zst := zv_store1 (by decide) yb b3 zl3 n6
        have z2b := z2a.set2 (zl3.2.2.2.2) (by decide) gne (.bool (zneg ((q : Int) * 10 + (d : Int)))) (.slice a6 (zl ((q : Int) * 10 + (d : Int))).length c6)
        obtain ⟨k0, k1, kf0, kf1, -⟩ := id zl3
        have HZ := hid (And.intro zst z2b)
        clear z2 z3 z2a hb yr n3 zst z2b e20
        go_wp2_with fail
        go_roundw
        case rel => exact ⟨j + 1, q * 10 + d, by go_num, by omega, HQ.out, HQB.out, HZ.out.2, HZ.out.1.2, HZ.out.1.1⟩
        case measure => simp [intOf]; omega
end Go.Proofs.YthaelmnblgollaaGreatDoor
set_option linter.unusedVariables false
set_option linter.unusedSimpArgs false
namespace Go.Ulp
open Go.RowKit
theorem nrm_cross {X Y : Int} {n k : Nat} (h : nrm X (-(n : Int)) = nrm Y (-(k : Int))) : X * pw k = Y * pw n := by
  have h1 := nrm_scale X (-(n : Int) - k) k
  have h2 := nrm_scale Y (-(n : Int) - k) n
  rw [show -(n : Int) - k + k = -(n : Int) by omega] at h1
  rw [show -(n : Int) - k + n = -(k : Int) by omega] at h2
  exact nrm_inj (h1.trans (h.trans h2.symm))
theorem cmp_nrmK {X Y : Int} {n k : Nat} (h : nrm X (-(n : Int)) = nrm Y (-(k : Int))) (A B : Int) : cmpI (X * B) (A * pw n) = cmpI (Y * B) (A * pw k) := by
  have h1 := nrm_cross h
  have hk : 0 < pw k := pw_pos k
  have hn : 0 < pw n := pw_pos n
  rw [← cmpI_scale (X * B) (A * pw n) (pw k) hk, ← cmpI_scale (Y * B) (A * pw k) (pw n) hn, Int.mul_right_comm X, h1, Int.mul_right_comm Y, Int.mul_right_comm A]
end Go.Ulp
namespace Go.Proofs.YthaelmnblgollaaGreatDoor
open Go.RowKit Go.Ulp
set_option linter.unusedVariables false
set_option linter.unusedSimpArgs false
set_option maxHeartbeats 2000000
set_option maxRecDepth 100000
theorem rbCmp_core (X A B : Int) (n : Nat) (ao : Option Addr) (cap gA gB : Nat) (w : World) (h0 : Nz 3 w ao cap (zl X)) (hB : ZV 39 3 w gB B) (hA : ZV 39 3 w gA A) (lX : (zl X).length ≤ 1000000) (hn : n ≤ 1000000) (lA : (zl A).length ≤ 1000000) (lB : (zl B).length ≤ 1000000) :
    Calls Tryz.prog 114 #[.agg #[.bool (zneg X), .slice ao (zl X).length cap, .int .i64 (n : Int)], .pointer (some ⟨gB, 0, none⟩), .pointer (some ⟨gA, 0, none⟩)] w fun e w' => e = .returned (.int .i64 (cmpI (X * B) (A * pw n))) ∧ Below w.heap.size w w' := by
  have lP : (zl (pw n)).length ≤ 1000001 := Nat.le_trans (zl_len_pw n) (by omega)
  have q0 : QL 41 (w.alloc (.cells #[.bool (zneg X), .slice ao (zl X).length cap, .int .i64 (n : Int)] 41)) w.heap.size (zneg X) (.slice ao (zl X).length cap) (n : Int) := QL.made rfl
  have y0 := below_alloc w (.cells #[.bool (zneg X), .slice ao (zl X).length cap, .int .i64 (n : Int)] 41)
  have zz : ZV 41 3 (w.alloc (.cells #[.bool (zneg X), .slice ao (zl X).length cap, .int .i64 (n : Int)] 41)) w.heap.size X := ⟨ao, cap, q0.1, h0.below y0⟩
  have cc := q0.2.1
  have kA := hA.below y0
  have kB := hB.below y0
  have HXX := hid lX
  clear h0
  go_enter Tryz.func114, Tryz.ntmps114
  go_upto_region 1 with fail
  refine wp_worldZ (fun WW => Below w.heap.size w WW ∧ ZV 41 3 WW w.heap.size X ∧ WW.cell? ⟨w.heap.size, 2, none⟩ = some (.int .i64 (n : Int)) ∧ ZV 39 3 WW gA A ∧ ZV 39 3 WW gB B) ⟨y0, zz, cc, kA, kB⟩ ?_
  intro W1 ⟨yb1, zQ, c2, z1, z2⟩
  obtain ⟨g2, hg2⟩ : ∃ g, g = w.heap.size := ⟨_, rfl⟩
  rw [← hg2] at zQ c2 ⊢
  clear hg2 q0 y0 zz cc kA kB hA hB
  refine wp_region_grow 10 [5, 6, 7, 8, 9, 10, 11, 12, 13, 14] [Fact.is (.pointer (some ⟨g2, 0, none⟩)), Fact.z 3 (X), Fact.z 3 (B), Fact.z 3 ((X) * (B)), Fact.z 3 (A), Fact.is (.pointer (some ⟨g2, 2, none⟩)), Fact.is (.int .i64 (n : Int)), Fact.z 3 (pw n), Fact.z 3 ((A) * (pw n)), Fact.is (.int .i64 (cmpI ((X) * (B)) ((A) * (pw n))))] (by kernel_rfl) (by kernel_rfl) ⟨?o0, ?o1, ?o2, ?o3, ?o4, ?o5, ?o6, ?o7, ?o8, ?o9, trivial⟩ ?after
  case o0 => (refine StepOK.plain rfl ?_; intro ρ w1 R hρ hb hp hR; have e3 : ρ (.tmp 3) = .pointer (some ⟨g2, 0, none⟩) := hρ.tmp 3 rfl; have hcon := hρ.con; have hfn := hρ.fn; clear hρ hp; unfold OpRun; go_simp; exact hR _ _ (Below.refl _ _) rfl)
  case o1 => (refine StepOK.plain rfl ?_; intro ρ w1 R hρ hb hp hR; have e5 : ρ (.tmp 5) = _ := hp 0 5 rfl rfl; obtain ⟨ya9, yc9, yj9, yn9⟩ := ZV.below zQ hb; obtain ⟨j90, j91, -⟩ := yj9; have hcon := hρ.con; have hfn := hρ.fn; clear hρ hp; unfold OpRun; go_simp; exact hR _ _ (Below.refl _ _) ⟨ya9, yc9, rfl, yn9⟩)
  case o2 => (refine StepOK.plain rfl ?_; intro ρ w1 R hρ hb hp hR; have e1 : ρ (.tmp 1) = .pointer (some ⟨gB, 0, none⟩) := hρ.tmp 1 rfl; obtain ⟨ya9, yc9, yj9, yn9⟩ := ZV.below z2 hb; obtain ⟨j90, j91, -⟩ := yj9; have hcon := hρ.con; have hfn := hρ.fn; clear hρ hp; unfold OpRun; go_simp; exact hR _ _ (Below.refl _ _) ⟨ya9, yc9, rfl, yn9⟩)
  case o3 => (refine StepOK.plain rfl ?_; intro ρ w1 R hρ hb hp hR; have f6 := hp 1 6 rfl rfl; have f7 := hp 2 7 rfl rfl; have hcon := hρ.con; have hfn := hρ.fn; clear hρ hp; unfold OpRun; go_simp; (refine (zmulD _ _ _ _ _ f6 f7 (by first | assumption | omega) (by first | assumption | omega)).mono ?_; rintro e wn ⟨v9, rfl, hz9, hbn⟩; exact ⟨_, rfl, hR _ _ hbn hz9⟩))
  case o4 => (refine StepOK.plain rfl ?_; intro ρ w1 R hρ hb hp hR; have e2 : ρ (.tmp 2) = .pointer (some ⟨gA, 0, none⟩) := hρ.tmp 2 rfl; obtain ⟨ya9, yc9, yj9, yn9⟩ := ZV.below z1 hb; obtain ⟨j90, j91, -⟩ := yj9; have hcon := hρ.con; have hfn := hρ.fn; clear hρ hp; unfold OpRun; go_simp; exact hR _ _ (Below.refl _ _) ⟨ya9, yc9, rfl, yn9⟩)
  case o5 => (refine StepOK.plain rfl ?_; intro ρ w1 R hρ hb hp hR; have e3 : ρ (.tmp 3) = .pointer (some ⟨g2, 0, none⟩) := hρ.tmp 3 rfl; have hcon := hρ.con; have hfn := hρ.fn; clear hρ hp; unfold OpRun; go_simp; exact hR _ _ (Below.refl _ _) rfl)
  case o6 => (refine StepOK.plain rfl ?_; intro ρ w1 R hρ hb hp hR; have e10 : ρ (.tmp 10) = _ := hp 5 10 rfl rfl; have j12 := (hb.cell (World.block_lt_of_cell? _ _ c2)).trans c2; have hcon := hρ.con; have hfn := hρ.fn; clear hρ hp; unfold OpRun; go_simp; exact hR _ _ (Below.refl _ _) rfl)
  case o7 => (refine StepOK.plain rfl ?_; intro ρ w1 R hρ hb hp hR; have e11 : ρ (.tmp 11) = _ := hp 6 11 rfl rfl; have hcon := hρ.con; have hfn := hρ.fn; clear hρ hp; unfold OpRun; go_simp; (refine (zpowD n _ (by first | assumption | omega)).mono ?_; rintro e wn ⟨v9, rfl, hz9, hbn⟩; exact ⟨_, rfl, hR _ _ hbn hz9⟩))
  case o8 => (refine StepOK.plain rfl ?_; intro ρ w1 R hρ hb hp hR; have f9 := hp 4 9 rfl rfl; have f12 := hp 7 12 rfl rfl; have hcon := hρ.con; have hfn := hρ.fn; clear hρ hp; unfold OpRun; go_simp; (refine (zmulD _ _ _ _ _ f9 f12 (by first | assumption | omega) (by first | assumption | omega)).mono ?_; rintro e wn ⟨v9, rfl, hz9, hbn⟩; exact ⟨_, rfl, hR _ _ hbn hz9⟩))
  case o9 => (refine StepOK.plain rfl ?_; intro ρ w1 R hρ hb hp hR; have f8 := hp 3 8 rfl rfl; have f13 := hp 8 13 rfl rfl; have hcon := hρ.con; have hfn := hρ.fn; clear hρ hp; unfold OpRun; go_simp; (refine (zcmpD _ _ _ _ _ f8 f13).mono ?_; rintro e wn ⟨rfl, hbn⟩; exact ⟨_, rfl, hR _ _ hbn rfl⟩))
  case after =>
    intro u wn hb hf
    have e14 : u 14 = _ := hf 9 14 (by omega) rfl
    clear hf
    simp only [putAll, Act.put, List.setIfInBounds_toArray, List.set_cons_zero, List.set_cons_succ, List.drop_succ_cons, List.drop_zero, List.drop_nil]
    rw [e14]
    go_wp2_with fail
    go_ret
    exact ⟨rfl, below_trans yb1 hb⟩
theorem rbCmp_any (v : Value) (D : Dy) (AA T : Nat) (Y A B : Int) (k gA gB : Nat) (w : World) (hq : QD 3 w D AA T v) (hD : D = nrm Y (-(k : Int))) (hAA : AA ≤ 1000000) (hT : T ≤ 1000000) (hB : ZV 39 3 w gB B) (hA : ZV 39 3 w gA A) (lA : (zl A).length ≤ 1000000) (lB : (zl B).length ≤ 1000000) :
    Calls Tryz.prog 114 #[v, .pointer (some ⟨gB, 0, none⟩), .pointer (some ⟨gA, 0, none⟩)] w fun e w' => e = .returned (.int .i64 (cmpI (Y * B) (A * pw k))) ∧ Below w.heap.size w w' := by
  obtain ⟨X, n, ao, cap, rfl, hN, hD2, hX, hn⟩ := hq
  have e := cmp_nrmK (hD2.trans hD) A B
  have h := rbCmp_core X A B n ao cap gA gB w hN hB hA (Nat.le_trans (zl_len_bits X AA hX) hAA) (by omega) lA lB
  rw [e] at h
  exact h
end Go.Proofs.YthaelmnblgollaaGreatDoor
