/- whole.Int. -/
import Derived.Test.YteaakbeemhmciaaDoorWh1
set_option linter.unusedVariables false
set_option linter.unusedSimpArgs false
namespace Go.Ulp
open Go.RowKit
theorem whole_parts (D : Dy) (d : Nat) (hd : D.2 = (d : Int)) : (whole D).natAbs = D.1.natAbs * 2 ^ d ∧ whole D = if D.1 < 0 then -((D.1.natAbs * 2 ^ d : Nat) : Int) else ((D.1.natAbs * 2 ^ d : Nat) : Int) := by
  have e : D.2.toNat = d := by omega
  have h1 : (whole D).natAbs = D.1.natAbs * 2 ^ d := by unfold whole; rw [natAbs_mul_pw, e]
  refine ⟨h1, ?_⟩
  have hp := pw_pos D.2.toNat
  split
  · rename_i h
    have : whole D < 0 := by unfold whole; exact Int.mul_neg_of_neg_of_pos h hp
    omega
  · rename_i h
    have : 0 ≤ whole D := by unfold whole; exact Int.mul_nonneg (by omega) (by omega)
    omega
/-- an int, whether it is changed, and an error -/
def RetI3 (w : World) (x : Int) (ch : Bool) (er : Int) (e : Ending) (w' : World) : Prop := e = .returned (.tuple #[.int .i64 x, .bool ch, .int .i64 er]) ∧ Below w.heap.size w w'
theorem retI3 {a b e f : Int} {c d : Bool} (h : a = b) (h' : c = d) (h'' : e = f) : Ending.returned (.tuple #[.int .i64 a, .bool c, .int .i64 e]) = .returned (.tuple #[.int .i64 b, .bool d, .int .i64 f]) := by rw [h, h', h'']
theorem val_or0' (x : Nat) (h : x < 4294967296) : Value.int .u64 (bits .or .u64 0 (x : Int)) = Value.int .u64 ((0 + 4294967296 ^ 0 * x : Nat) : Int) := val_or0 x h
end Go.Ulp
namespace Go.Proofs.YteaakbeemhmciaaDoor
open Go.RowKit Go.Ulp
set_option linter.unusedVariables false
set_option linter.unusedSimpArgs false
set_option maxHeartbeats 2000000
set_option maxRecDepth 100000
theorem intW_any (x mode : Int) (h0 : 0 ≤ x) (h1 : x < 18446744073709551616) (w : World) (hT : Tab 0 w) :
    Calls Tryd.prog 53 #[.int .u64 x, .int .i64 mode] w (RetI3 w (wiX x mode) (wiC x mode) (wiE x mode)) := by
  have KN := hid (fun w => known_any mode w)
  have HV := hid (fun w => hasValue_any x h0 h1 w)
  have VA := hid (fun w t => value_any x h0 h1 w t)
  have MU := hid (fun v w h t => multD_any x mode h0 h1 v w h t)
  obtain ⟨f1, f2, f3, f4⟩ := whD_form x mode h0 h1
  have HT := hid hT
  cases hk : knownB mode
  · obtain ⟨e1, e2, e3⟩ := wi_bad (x := x) (mode := mode) (e := 1) (by unfold wiE; rw [hk]; rfl) (by omega)
    rw [e1, e2, e3]
    rw [hk] at KN
    clear e1 e2 e3 hk hT f1 f2 f3 f4
    go_enter Tryd.func53, Tryd.ntmps53
    go_wp2_with (go_at_call 108; (with_reducible refine (KN.out _).mono ?_); rintro en w1 ⟨rfl, rfl⟩)
    refine bodyPost_ret (by simp [results, Tryd.results53, go_sem]; try rfl) rfl ?_
    exact ⟨rfl, Below.refl _ _⟩
  cases hv : hasVal x
  · obtain ⟨e1, e2, e3⟩ := wi_bad (x := x) (mode := mode) (e := 4) (by unfold wiE; rw [hk, hv]; rfl) (by omega)
    rw [e1, e2, e3]
    rw [hk] at KN
    rw [hv] at HV
    clear e1 e2 e3 hk hv hT f1 f2 f3 f4
    go_enter Tryd.func53, Tryd.ntmps53
    go_wp2_with (first
      | (go_at_call 108; (with_reducible refine (KN.out _).mono ?_); rintro en w1 ⟨rfl, rfl⟩)
      | (go_at_call 95; (with_reducible refine (HV.out _).mono ?_); rintro en w1 ⟨rfl, rfl⟩))
    refine bodyPost_ret (by simp [results, Tryd.results53, go_sem]; try rfl) rfl ?_
    exact ⟨rfl, Below.refl _ _⟩
  have HB := hid (fun h => wi_bad (x := x) (mode := mode) (e := 4) h (by omega))
  have HG := hid (fun h => wi_good (x := x) (mode := mode) h)
  have HE := hid (show wiE x mode = if -9223372036854775808 ≤ whole (whD x mode) ∧ whole (whD x mode) ≤ 9223372036854775807 then 0 else 4 by unfold wiE; rw [if_pos hk, if_pos hv])
  rw [hk] at KN
  rw [hv] at HV
  obtain ⟨d, hd⟩ := Int.eq_ofNat_of_zero_le f2
  obtain ⟨p1, p2⟩ := whole_parts (whD x mode) d hd
  have lD := limbs_short' 54 2 (by omega) _ f1
  generalize wiX x mode = rx at *
  generalize wiC x mode = rc at *
  generalize wiE x mode = re at *
  generalize whC x = wc at *
  generalize whole (whD x mode) = W at *
  generalize whD x mode = D at *
  have LE := hid (fun a0 c0 w h => leftN_any a0 c0 D.1.natAbs d w h (by omega) (by omega))
  obtain ⟨M, hM⟩ : ∃ M, M = D.1.natAbs * 2 ^ d := ⟨_, rfl⟩
  rw [← hM] at p2 LE
  have hMb : M < 2 ^ 1200 → True := fun _ => trivial
  have HD2 := hid hd
  have HW := hid p2
  clear hMb hd hk hv hT p1 f1 f2 f3 f4 lD hM p2
  have lL := hid (limbs_lim M)
  have lV := hid (lval_limbs M)
  have H64 := hid ((limbs_le_bits M 2).trans (by rw [show 2 ^ (32 * 2) = 18446744073709551616 from by decide]))
  have hml : (limbs M).length ≤ 1000000000 ∨ True := .inr trivial
  clear hml
  go_enter Tryd.func53, Tryd.ntmps53
  go_upto_region 6 with (first
    | (go_at_call 108; (with_reducible refine (KN.out _).mono ?_); rintro en w1 ⟨rfl, rfl⟩)
    | (go_at_call 95; (with_reducible refine (HV.out _).mono ?_); rintro en w1 ⟨rfl, rfl⟩)
    | (go_at_call 96; (with_reducible refine (VA.out _ HT.out).mono ?_); rintro en w2 ⟨v2, rfl, hv2, hb2⟩)
    | (go_at_call 109; (with_reducible refine (MU.out _ _ hv2 (HT.out.below hb2)).mono ?_); rintro en w3 ⟨v3, rfl, ⟨a3, c3, rfl, hN3⟩, hb3⟩))
  rw [HD2.out]
  have zD : QL 25 (w3.alloc (.cells #[.bool (decide (D.1 < 0)), .slice a3 (limbs D.1.natAbs).length c3, .int .i64 (d : Int)] 25)) w3.heap.size (decide (D.1 < 0)) (.slice a3 (limbs D.1.natAbs).length c3) (d : Int) := QL.made rfl
  have hND := hN3.below (below_alloc w3 (.cells #[.bool (decide (D.1 < 0)), .slice a3 (limbs D.1.natAbs).length c3, .int .i64 (d : Int)] 25))
  have yb := below_trans (below_trans hb2 hb3) (below_alloc w3 (.cells #[.bool (decide (D.1 < 0)), .slice a3 (limbs D.1.natAbs).length c3, .int .i64 (d : Int)] 25))
  obtain ⟨W1, hW1⟩ : ∃ W, W = w3.alloc (.cells #[.bool (decide (D.1 < 0)), .slice a3 (limbs D.1.natAbs).length c3, .int .i64 (d : Int)] 25) := ⟨_, rfl⟩
  obtain ⟨gD, hgD⟩ : ∃ g, g = w3.heap.size := ⟨_, rfl⟩
  rw [← hW1, ← hgD] at zD ⊢
  rw [← hW1] at hND yb
  have HND := hid hND
  clear hW1 hgD hN3 hb2 hb3 hv2 hND KN HV VA MU HD2
  obtain ⟨⟨j0, j1, -, -, -⟩, j2, -⟩ := id zD
  go_upto_region 7 with (go_at_call 132; (with_reducible refine (LE.out _ _ _ HND.out).mono ?_); rintro en w4 ⟨a4, rfl, hN4, hb4⟩)
  have zD4 := zD.below hb4
  have yb4 := below_trans yb hb4
  have hlM := hN4.2.1
  unfold maxLen at hlM
  obtain ⟨-, -, hcells⟩ := hN4
  clear j0 j1 j2 zD hb4 yb LE HND
  go_wp2_with fail
  go_loop [10, 11, 12, 34] (fun n _ _ i => ∃ (k : Nat), k ≤ (limbs M).length ∧ i = .int .i64 k ∧ n = .int .u64 ((lval ((limbs M).take (min k 2)) : Nat) : Int)) (fun _ _ _ i => (limbs M).length - (intOf i).toNat)
  case atStart => exact ⟨0, by omega, rfl, rfl⟩
  case round =>
    obtain ⟨kk, hkk, rfl, rfl⟩ := hrel
    by_cases hlt : kk < (limbs M).length
    · obtain ⟨b1, o1, rfl, hc⟩ := hcells (by omega)
      have hc1 := hc kk hlt
      obtain ⟨y, hy⟩ : ∃ y, y = (limbs M).getD kk 0 := ⟨_, rfl⟩
      have hy1 : y < 4294967296 := by rw [hy]; exact lL.out.getD (by omega) kk
      unfold lb at hc1
      rw [← hy] at hc1
      by_cases hk2 : kk < 2
      · have hv := lval_take_succ (limbs M) kk hlt
        rw [← hy] at hv
        have hvt := lval_take_lt (limbs M) kk lL.out (by omega)
        have hmin : min kk 2 = kk := by omega
        have hmin2 : min (kk + 1) 2 = kk + 1 := by omega
        rw [hmin]
        obtain ⟨V, hV⟩ : ∃ V, V = lval ((limbs M).take kk) := ⟨_, rfl⟩
        rw [← hV] at hv hvt ⊢
        have HVV := hid (show lval ((limbs M).take (min (kk + 1) 2)) = V + 4294967296 ^ kk * y by rw [hmin2]; exact hv)
        have hkc : kk = 0 ∨ kk = 1 := by omega
        clear hv hy hV hc hcells hmin hmin2 hk2 HE HB HG HW H64 lL lV
        rcases hkc with rfl | rfl
        · have hV0 : V = 0 := by simpa using hvt
          subst hV0
          rw [Nat.add_zero] at hc1
          clear hvt
          go_wp2_with fail
          go_round
          case rel => exact ⟨1, by omega, by go_num, by rw [HVV.out]; exact val_or0 y hy1⟩
          case measure => simp [intOf]; omega
        · clear hkk
          go_wp2_with fail
          go_round
          case rel => exact ⟨2, by omega, by go_num, by rw [HVV.out]; exact val_or1 V y hvt hy1⟩
          case measure => simp [intOf]; omega
      · have hmin : min (kk + 1) 2 = min kk 2 := by omega
        have HMN := hid hmin
        have hk3 : ¬ (kk : Int) < 2 := by omega
        clear hy hc hcells hmin hk2 HE HB HG HW H64 lL lV
        generalize min kk 2 = mk at *
        go_wp2_with fail
        go_round
        case rel => exact ⟨kk + 1, by omega, by go_num, by rw [HMN.out]⟩
        case measure => simp [intOf]; omega
    · have hke : kk = (limbs M).length := by omega
      have hk4 : ¬ (kk : Int) < ((limbs M).length : Int) := by omega
      obtain ⟨⟨j0, j1, -, -, -⟩, j2, -⟩ := id zD4
      by_cases hlen : 2 < (limbs M).length
      · have hbig : 18446744073709551616 ≤ M := by
          have := H64.out
          omega
        have hE4 : re = 4 := by
          rw [HE.out, HW.out]
          rw [if_neg]
          split <;> omega
        have EE := hid (HB.out hE4)
        have hl2 : (2 : Int) < ((limbs M).length : Int) := by omega
        generalize lval ((limbs M).take (min kk 2)) = nn at *
        clear hke hlen hbig hE4 HE HB HG HW H64 lL lV hcells hlt hkk
        cases hneg : decide (D.1 < 0)
        · rw [hneg] at j0
          clear hneg
          go_wp2_with fail
          refine bodyPost_ret (by simp [results, Tryd.results53, go_sem]; try rfl) rfl ?_
          exact ⟨retI3 EE.out.1.symm EE.out.2.1.symm EE.out.2.2.symm, yb4⟩
        · rw [hneg] at j0
          clear hneg
          go_wp2_with fail
          refine bodyPost_ret (by simp [results, Tryd.results53, go_sem]; try rfl) rfl ?_
          exact ⟨retI3 EE.out.1.symm EE.out.2.1.symm EE.out.2.2.symm, yb4⟩
      · have hsm : M < 18446744073709551616 := H64.out.1 (by omega)
        have hnn : lval ((limbs M).take (min kk 2)) = M := by
          rw [List.take_of_length_le (by omega), lV.out]
        rw [hnn]
        have hl2 : ¬ (2 : Int) < ((limbs M).length : Int) := by omega
        have hM1 : (M : Int) < 18446744073709551616 := by omega
        have hM0 : 0 ≤ (M : Int) := by omega
        clear hke hlen hnn H64 lL lV hcells hlt hkk
        cases hneg : decide (D.1 < 0)
        · have hW2 := HW.out
          rw [if_neg (of_decide_eq_false hneg)] at hW2
          rw [hneg] at j0
          by_cases hb : (9223372036854775807 : Int) < (M : Int)
          · have hE4 : re = 4 := by rw [HE.out, hW2, if_neg (by omega)]
            have EE := hid (HB.out hE4)
            clear hneg hW2 hE4 HE HB HG HW hsm
            go_wp2_with fail
            refine bodyPost_ret (by simp [results, Tryd.results53, go_sem]; try rfl) rfl ?_
            exact ⟨retI3 EE.out.1.symm EE.out.2.1.symm EE.out.2.2.symm, yb4⟩
          · have hE0 : re = 0 := by rw [HE.out, hW2, if_pos (by omega)]
            have EE := hid (HG.out hE0)
            have E1 := hid (EE.out.1.trans hW2)
            have hw1 : IntKind.i64.wrap (M : Int) = (M : Int) := IntWalk.i64_in _ (by omega)
            clear hneg hW2 hE0 HE HB HG HW hsm
            go_wp2_with fail
            refine bodyPost_ret (by simp [results, Tryd.results53, go_sem]; try rfl) rfl ?_
            exact ⟨retI3 E1.out.symm EE.out.2.1.symm EE.out.2.2.symm, yb4⟩
        · have hW2 := HW.out
          rw [if_pos (of_decide_eq_true hneg)] at hW2
          rw [hneg] at j0
          by_cases hb : (9223372036854775808 : Int) < (M : Int)
          · have hE4 : re = 4 := by rw [HE.out, hW2, if_neg (by omega)]
            have EE := hid (HB.out hE4)
            clear hneg hW2 hE4 HE HB HG HW hsm
            go_wp2_with fail
            refine bodyPost_ret (by simp [results, Tryd.results53, go_sem]; try rfl) rfl ?_
            exact ⟨retI3 EE.out.1.symm EE.out.2.1.symm EE.out.2.2.symm, yb4⟩
          · have hE0 : re = 0 := by rw [HE.out, hW2, if_pos (by omega)]
            have EE := hid (HG.out hE0)
            have E1 := hid (EE.out.1.trans hW2)
            have HF := hid (show wrap64 (IntKind.u64.wrap (-(M : Int))) = -(M : Int) by rw [← IntWalk.i64_left, IntKind.wrap_u64, IntKind.wrap_i64]; omega)
            clear hneg hW2 hE0 HE HB HG HW hsm
            go_wp2_with fail
            refine bodyPost_ret (by simp [results, Tryd.results53, go_sem]; try rfl) rfl ?_
            exact ⟨retI3 (by rw [E1.out]; exact HF.out) EE.out.2.1.symm EE.out.2.2.symm, yb4⟩
end Go.Proofs.YteaakbeemhmciaaDoor
