/- grow.Turn. -/
import Derived.Test.YteaakbeemhmciaaDoorGt
set_option linter.unusedVariables false
set_option linter.unusedSimpArgs false
namespace Go.Ulp
open Go.RowKit
/-- a new list of six numbers -/
theorem ns6 (w : World) (t : TypeId) (a b c d e f : Nat) :
    Ns .u64 (w.alloc (.cells #[.int .u64 (a : Int), .int .u64 (b : Int), .int .u64 (c : Int), .int .u64 (d : Int), .int .u64 (e : Int), .int .u64 (f : Int)] t)) (some ⟨w.heap.size, 0, none⟩) 6 [a, b, c, d, e, f] := by
  refine ⟨by simp, by unfold maxLen; omega, fun _ => ⟨w.heap.size, 0, rfl, fun i hi => ?_⟩⟩
  have hi6 : i < 6 := by simpa using hi
  obtain rfl | rfl | rfl | rfl | rfl | rfl : i = 0 ∨ i = 1 ∨ i = 2 ∨ i = 3 ∨ i = 4 ∨ i = 5 := by omega
  all_goals (rw [World.cell?_alloc_at (hn := rfl)]; rfl)
theorem cell_made {w : World} {v : Value} {t : TypeId} : (w.alloc (.cells #[v] t)).cell? ⟨w.heap.size, 0, none⟩ = some v := by
  rw [World.cell?_alloc_at (hn := rfl)]; rfl
/-- the bounds of a difference of two numbers' values -/
theorem addD_bd (B : Nat) (hB : B = 2098) (D E : Dy) (hD : D.1.natAbs < 2 ^ 53 ∧ -1074 ≤ D.2 ∧ D.2 ≤ 1024) (hE : E.1.natAbs < 2 ^ 53 ∧ -1074 ≤ E.2 ∧ E.2 ≤ 1024) :
    (addD D E).1.natAbs < 2 ^ (53 + B + 1) ∧ -1074 ≤ (addD D E).2 ∧ (addD D E).2 ≤ 4000 := by
  have hm : -1074 ≤ min D.2 E.2 ∧ min D.2 E.2 ≤ 1024 := by omega
  have h1 : (sc D.1 D.2 (min D.2 E.2)).natAbs < 2 ^ (53 + B) := by
    unfold sc
    exact abs_weak (abs_mul_pw_lt hD.1) (by omega)
  have h2 : (sc E.1 E.2 (min D.2 E.2)).natAbs < 2 ^ (53 + B) := by
    unfold sc
    exact abs_weak (abs_mul_pw_lt hE.1) (by omega)
  obtain ⟨k1, k2⟩ := nrm_bd (sc D.1 D.2 (min D.2 E.2) + sc E.1 E.2 (min D.2 E.2)) (min D.2 E.2) (53 + B + 1) (abs_add_lt h1 h2)
  refine ⟨k1, ?_, ?_⟩
  · show -1074 ≤ (nrm _ _).2; rcases k2 with k | k <;> omega
  · show (nrm _ _).2 ≤ 4000; rcases k2 with k | k <;> omega
theorem mulD_bd (A K : Nat) (hA : A ≤ 3000) (hK : K = 1000) (D E : Dy) (hD : D.1.natAbs < 2 ^ A ∧ -2000 ≤ D.2 ∧ D.2 ≤ 4000) (hE : E.1.natAbs < 2 ^ A ∧ -2000 ≤ E.2 ∧ E.2 ≤ 4000) :
    (limbs (mulD D E).1.natAbs).length ≤ K ∧ -4000 ≤ (mulD D E).2 ∧ (mulD D E).2 ≤ 20000 := by
  have h1 : (D.1 * E.1).natAbs < 2 ^ (A + A) := abs_mul_lt hD.1 hE.1
  obtain ⟨k1, k2⟩ := nrm_bd (D.1 * E.1) (D.2 + E.2) (A + A) h1
  refine ⟨(limbs_le_bits _ K).2 (Nat.lt_of_lt_of_le k1 (Nat.pow_le_pow_right (by omega) (by omega))), ?_, ?_⟩
  · show -4000 ≤ (nrm _ _).2; rcases k2 with k | k <;> omega
  · show (nrm _ _).2 ≤ 20000; rcases k2 with k | k <;> omega
theorem lh_made (w : World) (t t' : TypeId) : LH ((w.alloc (.cells #[.int .u64 2805742567851819008] t)).alloc (.cells #[.int .u64 6408622269748215808] t')) w.heap.size (w.heap.size + 1) := by
  refine ⟨((below_alloc _ _).cell (World.block_lt_of_cell? _ _ cell_made)).trans cell_made, ?_⟩
  rw [World.cell?_alloc_at (hn := by simp)]; rfl
end Go.Ulp
namespace Go.Proofs.YteaakbeemhmciaaDoor
open Go.RowKit Go.Ulp
set_option linter.unusedVariables false
set_option linter.unusedSimpArgs false
set_option maxHeartbeats 1000000
set_option maxRecDepth 100000
theorem turn_none (a b c d e f : Nat) (hl : ∀ j, lb [a, b, c, d, e, f] j < 18446744073709551616) (hn : ∃ j, j < 6 ∧ hasVal (lb [a, b, c, d, e, f] j) = false) (w : World) :
    Calls Tryd.prog 34 #[.int .u64 (a : Int), .int .u64 (b : Int), .int .u64 (c : Int), .int .u64 (d : Int), .int .u64 (e : Int), .int .u64 (f : Int)] w fun en w' => en = .returned (.tuple #[.int .i64 0, .int .i64 4]) ∧ Below w.heap.size w w' := by
  have C1 := hid (show ∀ g w, Ns .u64 w (some ⟨g, 0, none⟩) 6 [a, b, c, d, e, f] → Calls Tryd.prog 112 #[.slice (some ⟨g, 0, none⟩) 6 6, .func (.func 113) #[] #[]] w fun e w' => e = .returned (.bool true) ∧ Below w.heap.size w w' from fun g w h => by
    refine (contains1_any _ _ _ w h hl).mono ?_
    rintro en w' ⟨bb, rfl, hb, hbl⟩
    have : bb = true := hb.2 hn
    subst this
    exact ⟨rfl, hbl⟩)
  clear hn hl
  go_enter Tryd.func34, Tryd.ntmps34
  go_wp2_with (go_at_call 112; (with_reducible refine (C1.out _ _ (ns6 _ _ _ _ _ _ _ _)).mono ?_); rintro en w1 ⟨rfl, hb1⟩)
  refine bodyPost_ret (by simp [results, Tryd.results34, go_sem]; try rfl) rfl ?_
  refine ⟨?_, by (repeat' (first | (with_reducible assumption) | (with_reducible exact Below.refl _ _) | (with_reducible refine below_al ?_ _) | (with_reducible refine below_drewN ?_ _) | (with_reducible refine Below.drew ?_) | (with_reducible refine Below.alloc ?_ ?_ _) | (with_reducible refine Below.setCell ?_ ?_ _) | (refine below_trans ?_ (by assumption)) | go_size))⟩
  rfl
theorem turn_far (a b c d e f : Nat) (hl : ∀ j, lb [a, b, c, d, e, f] j < 18446744073709551616) (hn : ∀ j, j < 6 → hasVal (lb [a, b, c, d, e, f] j) = true) (hf : ∃ j, j < 6 ∧ tooB (lb [a, b, c, d, e, f] j) = true) (w : World) :
    Calls Tryd.prog 34 #[.int .u64 (a : Int), .int .u64 (b : Int), .int .u64 (c : Int), .int .u64 (d : Int), .int .u64 (e : Int), .int .u64 (f : Int)] w fun en w' => en = .returned (.tuple #[.int .i64 0, .int .i64 2]) ∧ Below w.heap.size w w' := by
  have C1 := hid (show ∀ g w, Ns .u64 w (some ⟨g, 0, none⟩) 6 [a, b, c, d, e, f] → Calls Tryd.prog 112 #[.slice (some ⟨g, 0, none⟩) 6 6, .func (.func 113) #[] #[]] w fun e w' => e = .returned (.bool false) ∧ Below w.heap.size w w' from fun g w h => by
    refine (contains1_any _ _ _ w h hl).mono ?_
    rintro en w' ⟨bb, rfl, hb, hbl⟩
    have : bb = false := by
      cases bb
      · rfl
      · obtain ⟨j, h1, h2⟩ := hb.1 rfl
        rw [hn j h1] at h2; cases h2
    subst this
    exact ⟨rfl, hbl⟩)
  have C2 := hid (show ∀ gl gh g w, LH w gl gh → Ns .u64 w (some ⟨g, 0, none⟩) 6 [a, b, c, d, e, f] → Calls Tryd.prog 112 #[.slice (some ⟨g, 0, none⟩) 6 6, .func (.func 114) #[] #[.pointer (some ⟨gl, 0, none⟩), .pointer (some ⟨gh, 0, none⟩)]] w fun e w' => e = .returned (.bool true) ∧ Below w.heap.size w w' from fun gl gh g w k h => by
    refine (contains2_any gl gh _ _ _ w h hl k).mono ?_
    rintro en w' ⟨bb, rfl, hb, hbl⟩
    have : bb = true := hb.2 hf
    subst this
    exact ⟨rfl, hbl⟩)
  have hmf : ∀ fn first cap w, (Instr.makeFunc fn first cap).run Tryd.prog w = .ok (.func fn first cap) w := fun _ _ _ _ => rfl
  have hN := ns6 w 22 a b c d e f
  clear hn hl hf
  go_enter Tryd.func34, Tryd.ntmps34
  go_wp2_with (first
    | (go_at_call 112; (with_reducible refine (C1.out _ _ (ns6 _ _ _ _ _ _ _ _)).mono ?_); rintro en w1 ⟨rfl, hb1⟩; have hN1 := (ns6 w _ a b c d e f).below hb1)
    | (go_at_call 112; (with_reducible refine (C2.out _ _ _ _ (lh_made _ _ _) ((hN1.below (below_alloc _ _)).below (below_alloc _ _))).mono ?_); rintro en w2 ⟨rfl, hb2⟩))
  refine bodyPost_ret (by simp [results, Tryd.results34, go_sem]; try rfl) rfl ?_
  exact ⟨rfl, by (repeat' (first | (with_reducible assumption) | (with_reducible exact Below.refl _ _) | (with_reducible refine below_al ?_ _) | (with_reducible refine below_drewN ?_ _) | (with_reducible refine Below.drew ?_) | (with_reducible refine Below.alloc ?_ ?_ _) | (with_reducible refine Below.setCell ?_ ?_ _) | (refine below_trans ?_ (by assumption)) | go_size))⟩
theorem turn_ok (a b c d e f : Nat) (hl : ∀ j, lb [a, b, c, d, e, f] j < 18446744073709551616) (hn : ∀ j, j < 6 → hasVal (lb [a, b, c, d, e, f] j) = true) (hf : ∀ j, j < 6 → tooB (lb [a, b, c, d, e, f] j) = false) (w : World) (hT : Tab 0 w) :
    Calls Tryd.prog 34 #[.int .u64 (a : Int), .int .u64 (b : Int), .int .u64 (c : Int), .int .u64 (d : Int), .int .u64 (e : Int), .int .u64 (f : Int)] w fun en w' => en = .returned (.tuple #[.int .i64 (cmpD (mulD (addD (fv (a : Int)) (negD (fv (e : Int)))) (addD (fv (d : Int)) (negD (fv (f : Int))))) (mulD (addD (fv (b : Int)) (negD (fv (f : Int)))) (addD (fv (c : Int)) (negD (fv (e : Int)))))), .int .i64 0]) ∧ Below w.heap.size w w' := by
  have C1 := hid (show ∀ g w, Ns .u64 w (some ⟨g, 0, none⟩) 6 [a, b, c, d, e, f] → Calls Tryd.prog 112 #[.slice (some ⟨g, 0, none⟩) 6 6, .func (.func 113) #[] #[]] w fun e w' => e = .returned (.bool false) ∧ Below w.heap.size w w' from fun g w h => by
    refine (contains1_any _ _ _ w h hl).mono ?_
    rintro en w' ⟨bb, rfl, hb, hbl⟩
    have : bb = false := by
      cases bb
      · rfl
      · obtain ⟨j, h1, h2⟩ := hb.1 rfl
        rw [hn j h1] at h2; cases h2
    subst this
    exact ⟨rfl, hbl⟩)
  have C2 := hid (show ∀ gl gh g w, LH w gl gh → Ns .u64 w (some ⟨g, 0, none⟩) 6 [a, b, c, d, e, f] → Calls Tryd.prog 112 #[.slice (some ⟨g, 0, none⟩) 6 6, .func (.func 114) #[] #[.pointer (some ⟨gl, 0, none⟩), .pointer (some ⟨gh, 0, none⟩)]] w fun e w' => e = .returned (.bool false) ∧ Below w.heap.size w w' from fun gl gh g w k h => by
    refine (contains2_any gl gh _ _ _ w h hl k).mono ?_
    rintro en w' ⟨bb, rfl, hb, hbl⟩
    have : bb = false := by
      cases bb
      · rfl
      · obtain ⟨j, h1, h2⟩ := hb.1 rfl
        rw [hf j h1] at h2; cases h2
    subst this
    exact ⟨rfl, hbl⟩)
  have hmf : ∀ fn first cap w, (Instr.makeFunc fn first cap).run Tryd.prog w = .ok (.func fn first cap) w := fun _ _ _ _ => rfl
  have hxa := hl 0
  have hxb := hl 1
  have hxc := hl 2
  have hxd := hl 3
  have hxe := hl 4
  have hxf := hl 5
  simp only [lb, List.getD_cons_zero, List.getD_cons_succ] at hxa hxb hxc hxd hxe hxf
  obtain ⟨B, hB⟩ : ∃ B : Nat, B = 2098 := ⟨_, rfl⟩
  have FB := hid (fun (x : Int) h0 h1 => (fv_bd x h0 h1).2)
  have SB := hid (show ∀ x y : Nat, (x : Int) < 18446744073709551616 → (y : Int) < 18446744073709551616 → (addD (fv (x : Int)) (negD (fv (y : Int)))).1.natAbs < 2 ^ (53 + B + 1) ∧ -1074 ≤ (addD (fv (x : Int)) (negD (fv (y : Int)))).2 ∧ (addD (fv (x : Int)) (negD (fv (y : Int)))).2 ≤ 4000 from fun x y h1 h2 => by
    have k1 := FB.out x (by omega) h1
    have k2 := FB.out y (by omega) h2
    exact addD_bd B hB _ _ k1 ⟨by rw [negD_abs]; exact k2.1, k2.2⟩)
  obtain ⟨K, hK⟩ : ∃ K : Nat, K = 100 := ⟨_, rfl⟩
  have LB := hid (fun (M : Nat) (h : M < 2 ^ (53 + B + 1)) => (limbs_le_bits M K).2 (Nat.lt_of_lt_of_le h (Nat.pow_le_pow_right (by omega) (by omega))))
  have S1 := hid (fun w t => turnSub_any (a : Int) (e : Int) ⟨by omega, hxa⟩ ⟨by omega, hxe⟩ w t)
  have S2 := hid (fun w t => turnSub_any (d : Int) (f : Int) ⟨by omega, hxd⟩ ⟨by omega, hxf⟩ w t)
  have S3 := hid (fun w t => turnSub_any (b : Int) (f : Int) ⟨by omega, hxb⟩ ⟨by omega, hxf⟩ w t)
  have S4 := hid (fun w t => turnSub_any (c : Int) (e : Int) ⟨by omega, hxc⟩ ⟨by omega, hxe⟩ w t)
  have b1 := SB.out a e hxa hxe
  have b2 := SB.out d f hxd hxf
  have b3 := SB.out b f hxb hxf
  have b4 := SB.out c e hxc hxe
  generalize addD (fv (a : Int)) (negD (fv (e : Int))) = X1 at *
  generalize addD (fv (d : Int)) (negD (fv (f : Int))) = X2 at *
  generalize addD (fv (b : Int)) (negD (fv (f : Int))) = X3 at *
  generalize addD (fv (c : Int)) (negD (fv (e : Int))) = X4 at *
  have l1 := LB.out _ b1.1
  have l2 := LB.out _ b2.1
  have l3 := LB.out _ b3.1
  have l4 := LB.out _ b4.1
  have T1 := hid (fun v u w h0 h1 t => timesD_any v u X1 X2 w h0 h1 (by omega) (by omega) ⟨by omega, by omega⟩ ⟨by omega, by omega⟩ t)
  have T2 := hid (fun v u w h0 h1 t => timesD_any v u X3 X4 w h0 h1 (by omega) (by omega) ⟨by omega, by omega⟩ ⟨by omega, by omega⟩ t)
  have m1 := mulD_bd (53 + B + 1) 1000 (by omega) rfl X1 X2 ⟨b1.1, by omega, by omega⟩ ⟨b2.1, by omega, by omega⟩
  have m2 := mulD_bd (53 + B + 1) 1000 (by omega) rfl X3 X4 ⟨b3.1, by omega, by omega⟩ ⟨b4.1, by omega, by omega⟩
  have CP := hid (fun v u w h0 h1 t => compareD_any v u (mulD X1 X2) (mulD X3 X4) w h0 h1 (by omega) (by omega) ⟨by omega, by omega⟩ ⟨by omega, by omega⟩ t)
  generalize cmpD (mulD X1 X2) (mulD X3 X4) = cv at *
  generalize mulD X1 X2 = P1 at *
  generalize mulD X3 X4 = P2 at *
  clear b1 b2 b3 b4 l1 l2 l3 l4 m1 m2 LB SB FB hB hK hl hn hf hxa hxb hxc hxd hxe hxf
  have HT := hid hT
  clear hT
  go_enter Tryd.func34, Tryd.ntmps34
  go_upto_region 8 with (first
    | (go_at_call 112; (with_reducible refine (C1.out _ _ (ns6 _ _ _ _ _ _ _ _)).mono ?_); rintro en w1 ⟨rfl, hb1⟩; have hN1 := (ns6 w _ a b c d e f).below hb1)
    | (go_at_call 112; (with_reducible refine (C2.out _ _ _ _ (lh_made _ _ _) ((hN1.below (below_alloc _ _)).below (below_alloc _ _))).mono ?_); rintro en w2 ⟨rfl, hb2⟩))
  have yb : Below w.heap.size w w2 := by (repeat' (first | (with_reducible assumption) | (with_reducible exact Below.refl _ _) | (with_reducible refine below_al ?_ _) | (with_reducible refine below_drewN ?_ _) | (with_reducible refine Below.drew ?_) | (with_reducible refine Below.alloc ?_ ?_ _) | (with_reducible refine Below.setCell ?_ ?_ _) | (refine below_trans ?_ (by assumption)) | go_size))
  clear hN1 hb1 hb2 C1 C2
  go_cut [18] (fun s1 wx => ∃ g, s1 = .pointer (some ⟨g, 0, none⟩) ∧ DV 25 wx g P1 ∧ Below w2.heap.size w2 wx)
  case first =>
    go_wp2_with (first
      | (go_at_call 116; (with_reducible refine (S1.out _ (HT.out.below yb)).mono ?_); rintro en w3 ⟨v3, rfl, hv3, hb3⟩)
      | (go_at_call 116; (with_reducible refine (S2.out _ ((HT.out.below yb).below hb3)).mono ?_); rintro en w4 ⟨v4, rfl, hv4, hb4⟩)
      | (go_at_call 119; (with_reducible refine (T1.out _ _ _ (hv3.below hb4) hv4 (((HT.out.below yb).below hb3).below hb4)).mono ?_); rintro en w5 ⟨v5, rfl, ⟨a5, c5, rfl, hN5⟩, hb5⟩))
    go_meet
    exact ⟨_, rfl, ⟨_, _, QL.made rfl, hN5.below (below_alloc _ _)⟩, by (repeat' (first | (with_reducible assumption) | (with_reducible exact Below.refl _ _) | (with_reducible refine below_al ?_ _) | (with_reducible refine below_drewN ?_ _) | (with_reducible refine Below.drew ?_) | (with_reducible refine Below.alloc ?_ ?_ _) | (with_reducible refine Below.setCell ?_ ?_ _) | (refine below_trans ?_ (by assumption)) | go_size))⟩
  case rest =>
  obtain ⟨g18, rfl, dv1, hbx⟩ := hcut
  replace yb := below_trans yb hbx
  obtain ⟨W1, hW1⟩ : ∃ W, W = wc := ⟨_, rfl⟩
  subst hW1
  clear hbx S1 S2 T1
  go_upto_region 9 with fail
  go_cut [19] (fun s1 wx => ∃ g, s1 = .pointer (some ⟨g, 0, none⟩) ∧ DV 25 wx g P2 ∧ Below W1.heap.size W1 wx)
  case first =>
    go_wp2_with (first
      | (go_at_call 116; (with_reducible refine (S3.out _ (HT.out.below yb)).mono ?_); rintro en w3 ⟨v3, rfl, hv3, hb3⟩)
      | (go_at_call 116; (with_reducible refine (S4.out _ ((HT.out.below yb).below hb3)).mono ?_); rintro en w4 ⟨v4, rfl, hv4, hb4⟩)
      | (go_at_call 119; (with_reducible refine (T2.out _ _ _ (hv3.below hb4) hv4 (((HT.out.below yb).below hb3).below hb4)).mono ?_); rintro en w5 ⟨v5, rfl, ⟨a5, c5, rfl, hN5⟩, hb5⟩))
    go_meet
    exact ⟨_, rfl, ⟨_, _, QL.made rfl, hN5.below (below_alloc _ _)⟩, by (repeat' (first | (with_reducible assumption) | (with_reducible exact Below.refl _ _) | (with_reducible refine below_al ?_ _) | (with_reducible refine below_drewN ?_ _) | (with_reducible refine Below.drew ?_) | (with_reducible refine Below.alloc ?_ ?_ _) | (with_reducible refine Below.setCell ?_ ?_ _) | (refine below_trans ?_ (by assumption)) | go_size))⟩
  case rest =>
  obtain ⟨g19, rfl, dv2, hbx⟩ := hcut
  replace yb := below_trans yb hbx
  replace dv1 := dv1.below hbx
  obtain ⟨a1, c1, z1, n1⟩ := dv1
  obtain ⟨a2, c2, z2, n2⟩ := dv2
  have hv1 : VD wc P1 (.agg #[.bool (decide (P1.1 < 0)), .slice a1 (limbs P1.1.natAbs).length c1, .int .i64 P1.2]) := ⟨a1, c1, rfl, n1⟩
  have hv2 : VD wc P2 (.agg #[.bool (decide (P2.1 < 0)), .slice a2 (limbs P2.1.natAbs).length c2, .int .i64 P2.2]) := ⟨a2, c2, rfl, n2⟩
  obtain ⟨⟨j0, j1, -, -, -⟩, j2, -⟩ := id z1
  obtain ⟨⟨i0, i1, -, -, -⟩, i2, -⟩ := id z2
  go_wp2_with (go_at_call 120; (with_reducible refine (CP.out _ _ _ hv1 hv2 (HT.out.below yb)).mono ?_); rintro en w6 ⟨rfl, hb6⟩)
  refine bodyPost_ret (by simp [results, Tryd.results34, go_sem]; try rfl) rfl ?_
  exact ⟨rfl, below_trans yb hb6⟩
end Go.Proofs.YteaakbeemhmciaaDoor
