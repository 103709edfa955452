/- grow.Turn: the lists of numbers that it searches. -/
import Derived.Test.YteaakbeemhmciaaDoorSh
import Derived.Test.YteaakbeemhmciaaDoorFloat
set_option linter.unusedVariables false
set_option linter.unusedSimpArgs false
namespace Go.Ulp
open Go.RowKit
/-- what a search leaves -/
def RetIx (w : World) (L : List Nat) (pr : Int → Bool) (e : Ending) (w' : World) : Prop :=
  ∃ i : Int, e = .returned (.int .i64 i) ∧ (0 ≤ i ↔ ∃ j, j < L.length ∧ pr (lb L j) = true) ∧ Below w.heap.size w w'
def tooB (x : Int) : Bool := decide (absOf x ≠ 0) && (decide (absOf x < 2805742567851819008) || decide (6408622269748215808 < absOf x))
/-- the two bounds, captured -/
def LH (w : World) (gl gh : Nat) : Prop := w.cell? ⟨gl, 0, none⟩ = some (.int .u64 2805742567851819008) ∧ w.cell? ⟨gh, 0, none⟩ = some (.int .u64 6408622269748215808)
theorem LH.below {w w' : World} {gl gh : Nat} (h : LH w gl gh) (hb : Below w.heap.size w w') : LH w' gl gh :=
  ⟨(hb.cell (World.block_lt_of_cell? _ _ h.1)).trans h.1, (hb.cell (World.block_lt_of_cell? _ _ h.2)).trans h.2⟩
end Go.Ulp
namespace Go.Proofs.YteaakbeemhmciaaDoor
open Go.RowKit Go.Ulp
set_option linter.unusedVariables false
set_option linter.unusedSimpArgs false
set_option maxHeartbeats 1000000
set_option maxRecDepth 100000
theorem turn1_any (x : Int) (h0 : 0 ≤ x) (h1 : x < 18446744073709551616) (w : World) :
    Calls Tryd.prog 113 #[.int .u64 x] w fun e w' => e = .returned (.bool (!hasVal x)) ∧ w = w' := by
  have HV := hid (fun w => hasValue_any x h0 h1 w)
  generalize hasVal x = b at *
  go_enter Tryd.func113, Tryd.ntmps113
  go_wp2_with (go_at_call 95; (with_reducible refine (HV.out _).mono ?_); rintro en w1 ⟨rfl, rfl⟩)
  go_ret
  exact ⟨rfl, rfl⟩
theorem index1_any (ao : Option Addr) (cap : Nat) (L : List Nat) (w : World) (h : Ns .u64 w ao cap L) (hL : ∀ j, lb L j < 18446744073709551616) :
    Calls Tryd.prog 160 #[.slice ao L.length cap, .func (.func 113) #[] #[]] w (RetIx w L (fun x => !hasVal x)) := by
  obtain ⟨h1, h2, h3⟩ := h
  unfold maxLen at h2
  have TC := hid (fun j w => turn1_any (lb L j) (by unfold lb; omega) (hL j) w)
  clear hL
  go_enter Tryd.func160, Tryd.ntmps160
  go_wp2_with fail
  go_loopw [8] (fun i wr => ∃ i0 : Nat, i = .int .i64 (i0 : Int) ∧ i0 ≤ L.length ∧ (∀ j, j < i0 → hasVal (lb L j) = true) ∧ Below w.heap.size w wr) (fun i _ => (L.length - (intOf i).toNat))
  case atStart => exact ⟨0, rfl, by omega, fun j hj => by omega, Below.refl _ _⟩
  case round =>
    obtain ⟨j, rfl, hi1, hdr, hb⟩ := hrel
    have HD := hid hdr
    clear hdr
    by_cases hi : (j : Int) < (L.length : Int)
    · obtain ⟨b0, o0, rfl, hc0⟩ := h3 (by omega)
      have k0 := (hb.cell (p := ⟨b0, o0 + j, none⟩) (World.block_lt_of_cell? _ _ (hc0 j (by omega)))).trans (hc0 j (by omega))
      clear hc0 h3
      have TJ := hid (TC.out j)
      cases hv : hasVal (lb L j)
      · have HV := hid hv
        rw [hv] at TJ
        clear hv
        go_wp2_with (go_at_call 113; (with_reducible refine (TJ.out _).mono ?_); rintro en w1 ⟨rfl, rfl⟩)
        go_ret
        exact ⟨j, rfl, ⟨fun _ => ⟨j, by omega, by show (!hasVal (lb L j)) = true; rw [HV.out]; rfl⟩, fun _ => by omega⟩, by (repeat' (first | (with_reducible assumption) | (with_reducible exact Below.refl _ _) | (with_reducible refine below_al ?_ _) | (with_reducible refine below_drewN ?_ _) | (with_reducible refine Below.drew ?_) | (with_reducible refine Below.alloc ?_ ?_ _) | (with_reducible refine Below.setCell ?_ ?_ _) | (refine below_trans ?_ (by assumption)) | go_size))⟩
      · have HV := hid hv
        rw [hv] at TJ
        clear hv
        go_wp2_with (go_at_call 113; (with_reducible refine (TJ.out _).mono ?_); rintro en w1 ⟨rfl, rfl⟩)
        go_roundw
        case rel => exact ⟨j + 1, by go_num, by omega, fun i hi => by
          by_cases e : i = j
          · rw [e]; exact HV.out
          · exact HD.out i (by omega), by (repeat' (first | (with_reducible assumption) | (with_reducible exact Below.refl _ _) | (with_reducible refine below_al ?_ _) | (with_reducible refine below_drewN ?_ _) | (with_reducible refine Below.drew ?_) | (with_reducible refine Below.alloc ?_ ?_ _) | (with_reducible refine Below.setCell ?_ ?_ _) | (refine below_trans ?_ (by assumption)) | go_size))⟩
        case measure => simp [intOf]; omega
    · go_wp2_with fail
      go_ret
      refine ⟨-1, rfl, ⟨fun h => by omega, fun ⟨i, hi2, hp⟩ => ?_⟩, by (repeat' (first | (with_reducible assumption) | (with_reducible exact Below.refl _ _) | (with_reducible refine below_al ?_ _) | (with_reducible refine below_drewN ?_ _) | (with_reducible refine Below.drew ?_) | (with_reducible refine Below.alloc ?_ ?_ _) | (with_reducible refine Below.setCell ?_ ?_ _) | (refine below_trans ?_ (by assumption)) | go_size))⟩
      have h9 := HD.out i (by omega)
      have hp2 : (!hasVal (lb L i)) = true := hp
      rw [h9] at hp2; cases hp2
theorem contains1_any (ao : Option Addr) (cap : Nat) (L : List Nat) (w : World) (h : Ns .u64 w ao cap L) (hL : ∀ j, lb L j < 18446744073709551616) :
    Calls Tryd.prog 112 #[.slice ao L.length cap, .func (.func 113) #[] #[]] w fun e w' => ∃ b : Bool, e = .returned (.bool b) ∧ (b = true ↔ ∃ j, j < L.length ∧ hasVal (lb L j) = false) ∧ Below w.heap.size w w' := by
  have IX := hid (fun w h => index1_any ao cap L w h hL)
  have H := hid h
  have hcap := h.1
  have hcap2 := h.2.1
  clear h
  go_enter Tryd.func112, Tryd.ntmps112
  go_wp2_with (go_at_call 160; (with_reducible refine (IX.out _ H.out).mono ?_); rintro en w1 ⟨i, rfl, hi, hb⟩; have HI := hid hi; clear hi)
  go_ret
  refine ⟨_, rfl, ?_, hb⟩
  rw [decide_eq_true_eq, HI.out]
  exact ⟨fun ⟨j, h1, h2⟩ => ⟨j, h1, by have h3 : (!hasVal (lb L j)) = true := h2; cases hh : hasVal (lb L j); rfl; rw [hh] at h3; cases h3⟩, fun ⟨j, h1, h2⟩ => ⟨j, h1, by show (!hasVal (lb L j)) = true; rw [h2]; rfl⟩⟩
theorem turn2_any (x : Int) (h0 : 0 ≤ x) (h1 : x < 18446744073709551616) (gl gh : Nat) (w : World) (hc : LH w gl gh) :
    Calls Tryd.prog 114 #[.int .u64 x, .pointer (some ⟨gl, 0, none⟩), .pointer (some ⟨gh, 0, none⟩)] w fun e w' => e = .returned (.bool (tooB x)) ∧ w = w' := by
  have AB := hid (fun w => abs_any x h0 h1 w)
  obtain ⟨hl, hh⟩ := hc
  have HT := hid (show tooB x = (decide (absOf x ≠ 0) && (decide (absOf x < 2805742567851819008) || decide (6408622269748215808 < absOf x))) from rfl)
  generalize absOf x = m at *
  generalize tooB x = b at *
  by_cases hz : m = 0
  · have HB := hid (show b = false by rw [HT.out, hz]; rfl)
    subst hz
    clear HT
    go_enter Tryd.func114, Tryd.ntmps114
    go_wp2_with (go_at_call 115; (with_reducible refine (AB.out _).mono ?_); rintro en w1 ⟨rfl, rfl⟩)
    go_ret
    exact ⟨ret_bool (by rw [HB.out]), rfl⟩
  · have hzb : (m == 0) = false := beq_eq_false_iff_ne.2 hz
    have hnb : (m != 0) = true := by simp [bne, hzb]
    by_cases hlt : m < 2805742567851819008
    · have HB := hid (show b = true by rw [HT.out, decide_eq_true hz, decide_eq_true hlt]; rfl)
      clear HT hz
      go_enter Tryd.func114, Tryd.ntmps114
      go_wp2_with (go_at_call 115; (with_reducible refine (AB.out _).mono ?_); rintro en w1 ⟨rfl, rfl⟩)
      go_ret
      exact ⟨ret_bool (by rw [HB.out]), rfl⟩
    · have HB := hid (show b = decide (6408622269748215808 < m) by
        have h2 : decide (m < 2805742567851819008) = false := decide_eq_false (by omega)
        rw [HT.out, decide_eq_true hz, Bool.true_and, h2, Bool.false_or])
      clear HT hz
      go_enter Tryd.func114, Tryd.ntmps114
      go_wp2_with (go_at_call 115; (with_reducible refine (AB.out _).mono ?_); rintro en w1 ⟨rfl, rfl⟩)
      go_ret
      exact ⟨ret_bool (by
        have h2 : decide (m < 2805742567851819008) = false := decide_eq_false (by omega)
        rw [HB.out, h2, Bool.false_or]), rfl⟩
theorem index2_any (gl gh : Nat) (ao : Option Addr) (cap : Nat) (L : List Nat) (w : World) (h : Ns .u64 w ao cap L) (hL : ∀ j, lb L j < 18446744073709551616) (hc : LH w gl gh) :
    Calls Tryd.prog 160 #[.slice ao L.length cap, .func (.func 114) #[] #[.pointer (some ⟨gl, 0, none⟩), .pointer (some ⟨gh, 0, none⟩)]] w (RetIx w L (fun x => tooB x)) := by
  obtain ⟨h1, h2, h3⟩ := h
  unfold maxLen at h2
  have TC := hid (fun j w hc => turn2_any (lb L j) (by unfold lb; omega) (hL j) gl gh w hc)
  clear hL
  go_enter Tryd.func160, Tryd.ntmps160
  go_wp2_with fail
  go_loopw [8] (fun i wr => ∃ i0 : Nat, i = .int .i64 (i0 : Int) ∧ i0 ≤ L.length ∧ (∀ j, j < i0 → tooB (lb L j) = false) ∧ Below w.heap.size w wr) (fun i _ => (L.length - (intOf i).toNat))
  case atStart => exact ⟨0, rfl, by omega, fun j hj => by omega, Below.refl _ _⟩
  case round =>
    obtain ⟨j, rfl, hi1, hdr, hb⟩ := hrel
    have HD := hid hdr
    clear hdr
    by_cases hi : (j : Int) < (L.length : Int)
    · obtain ⟨b0, o0, rfl, hc0⟩ := h3 (by omega)
      have k0 := (hb.cell (p := ⟨b0, o0 + j, none⟩) (World.block_lt_of_cell? _ _ (hc0 j (by omega)))).trans (hc0 j (by omega))
      clear hc0 h3
      have TJ := hid (TC.out j)
      cases hv : tooB (lb L j)
      · have HV := hid hv
        rw [hv] at TJ
        clear hv
        go_wp2_with (go_at_call 114; (with_reducible refine (TJ.out _ (hc.below hb)).mono ?_); rintro en w1 ⟨rfl, rfl⟩)
        go_roundw
        case rel => exact ⟨j + 1, by go_num, by omega, fun i hi => by
          by_cases e : i = j
          · rw [e]; exact HV.out
          · exact HD.out i (by omega), by (repeat' (first | (with_reducible assumption) | (with_reducible exact Below.refl _ _) | (with_reducible refine below_al ?_ _) | (with_reducible refine below_drewN ?_ _) | (with_reducible refine Below.drew ?_) | (with_reducible refine Below.alloc ?_ ?_ _) | (with_reducible refine Below.setCell ?_ ?_ _) | (refine below_trans ?_ (by assumption)) | go_size))⟩
        case measure => simp [intOf]; omega
      · have HV := hid hv
        rw [hv] at TJ
        clear hv
        go_wp2_with (go_at_call 114; (with_reducible refine (TJ.out _ (hc.below hb)).mono ?_); rintro en w1 ⟨rfl, rfl⟩)
        go_ret
        exact ⟨j, rfl, ⟨fun _ => ⟨j, by omega, HV.out⟩, fun _ => by omega⟩, by (repeat' (first | (with_reducible assumption) | (with_reducible exact Below.refl _ _) | (with_reducible refine below_al ?_ _) | (with_reducible refine below_drewN ?_ _) | (with_reducible refine Below.drew ?_) | (with_reducible refine Below.alloc ?_ ?_ _) | (with_reducible refine Below.setCell ?_ ?_ _) | (refine below_trans ?_ (by assumption)) | go_size))⟩
    · go_wp2_with fail
      go_ret
      refine ⟨-1, rfl, ⟨fun h => by omega, fun ⟨i, hi2, hp⟩ => ?_⟩, by (repeat' (first | (with_reducible assumption) | (with_reducible exact Below.refl _ _) | (with_reducible refine below_al ?_ _) | (with_reducible refine below_drewN ?_ _) | (with_reducible refine Below.drew ?_) | (with_reducible refine Below.alloc ?_ ?_ _) | (with_reducible refine Below.setCell ?_ ?_ _) | (refine below_trans ?_ (by assumption)) | go_size))⟩
      have h9 := HD.out i (by omega)
      have hp2 : tooB (lb L i) = true := hp
      rw [h9] at hp2; cases hp2
theorem contains2_any (gl gh : Nat) (ao : Option Addr) (cap : Nat) (L : List Nat) (w : World) (h : Ns .u64 w ao cap L) (hL : ∀ j, lb L j < 18446744073709551616) (hc : LH w gl gh) :
    Calls Tryd.prog 112 #[.slice ao L.length cap, .func (.func 114) #[] #[.pointer (some ⟨gl, 0, none⟩), .pointer (some ⟨gh, 0, none⟩)]] w fun e w' => ∃ b : Bool, e = .returned (.bool b) ∧ (b = true ↔ ∃ j, j < L.length ∧ tooB (lb L j) = true) ∧ Below w.heap.size w w' := by
  have IX := hid (index2_any gl gh ao cap L w h hL hc)
  have H := hid h
  have hcap := h.1
  have hcap2 := h.2.1
  clear h
  go_enter Tryd.func112, Tryd.ntmps112
  go_wp2_with (go_at_call 160; (with_reducible refine IX.out.mono ?_); rintro en w1 ⟨i, rfl, hi, hb⟩; have HI := hid hi; clear hi)
  go_ret
  refine ⟨_, rfl, ?_, hb⟩
  rw [decide_eq_true_eq, HI.out]
theorem turnSub_any (x y : Int) (hx : 0 ≤ x ∧ x < 18446744073709551616) (hy : 0 ≤ y ∧ y < 18446744073709551616) (w : World) (hT : Tab 0 w) :
    Calls Tryd.prog 116 #[.int .u64 x, .int .u64 y] w (RetVD w (addD (fv x) (negD (fv y)))) := by
  have VX := hid (fun w t => value_any x hx.1 hx.2 w t)
  have VY := hid (fun w t => value_any y hy.1 hy.2 w t)
  have HT := hid hT
  obtain ⟨-, bx1, bx2, bx3⟩ := fv_bd x hx.1 hx.2
  obtain ⟨-, by1, by2, by3⟩ := fv_bd y hy.1 hy.2
  have lx : (limbs (fv x).1.natAbs).length ≤ 2 := (limbs_le_bits _ 2).2 (Nat.lt_of_lt_of_le bx1 (Nat.pow_le_pow_right (by omega) (by omega)))
  have ly : (limbs (fv y).1.natAbs).length ≤ 2 := (limbs_le_bits _ 2).2 (Nat.lt_of_lt_of_le by1 (Nat.pow_le_pow_right (by omega) (by omega)))
  have OP := hid (fun v w h => opp_any v (fv y) w h (by omega))
  have PL := hid (fun v u w h0 h1 t => plusD_any v u (fv x) (negD (fv y)) w h0 h1 (by omega) (by rw [negD_abs]; omega) ⟨by omega, by omega⟩ ⟨(by show -1000000 ≤ (fv y).2; omega), (by show (fv y).2 ≤ 1000000; omega)⟩ t)
  have yb0 := below_alloc w (.cells #[.bool false, .slice none 0 0, .int .i64 0] 25)
  have zR0 : QL 25 (w.alloc (.cells #[.bool false, .slice none 0 0, .int .i64 0] 25)) w.heap.size false (.slice none 0 0) 0 := QL.made rfl
  generalize addD (fv x) (negD (fv y)) = R at *
  generalize negD (fv y) = N at *
  generalize fv x = X at *
  generalize fv y = Y at *
  clear hT bx1 bx2 bx3 by1 by2 by3 lx ly
  go_enter Tryd.func116, Tryd.ntmps116
  go_wp2_with (first
    | (go_at_call 96; (with_reducible refine (VX.out _ (HT.out.below yb0)).mono ?_); rintro en w1 ⟨v1, rfl, hv1, hb1⟩; have yb1 := below_trans yb0 hb1)
    | (go_at_call 96; (with_reducible refine (VY.out _ (HT.out.below yb1)).mono ?_); rintro en w2 ⟨v2, rfl, hv2, hb2⟩; have yb2 := below_trans yb1 hb2)
    | (go_at_call 118; (with_reducible refine (OP.out _ _ hv2).mono ?_); rintro en w3 ⟨v3, rfl, hv3, hb3⟩; have yb3 := below_trans yb2 hb3)
    | (go_at_call 117; (with_reducible refine (PL.out _ _ _ ((hv1.below hb2).below hb3) hv3 (HT.out.below yb3)).mono ?_); rintro en w4 ⟨v4, rfl, ⟨a4, c4, rfl, hN4⟩, hb4⟩; have yb4 := below_trans yb3 hb4; have zR4 := (((zR0.below hb1).below hb2).below hb3).below hb4; obtain ⟨⟨k0, k1, f0, f1, hs2⟩, k2, f2⟩ := id zR4))
  refine bodyPost_ret (by simp [results, Tryd.results116, go_sem, k0, k1, k2]; try rfl) rfl ?_
  exact ⟨_, rfl, ⟨a4, c4, rfl, hN4.set3 zR4 (by intro x h; cases h) _ _ _⟩, ((yb4.setCell (by first | omega | (simp; done) | (simp; omega)) _).setCell (by first | omega | (simp; done) | (simp; omega)) _).setCell (by first | omega | (simp; done) | (simp; omega)) _⟩
end Go.Proofs.YteaakbeemhmciaaDoor
