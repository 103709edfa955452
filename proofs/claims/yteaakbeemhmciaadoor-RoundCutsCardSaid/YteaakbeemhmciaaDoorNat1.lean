/- What the small functions of package nat answer. -/
import Derived.Test.YteaakbeemhmciaaDoorRows
import Derived.Test.YteaakbeemhmciaaDoorMem
namespace Go.Proofs.YteaakbeemhmciaaDoor
open Go.RowKit Go.Ulp
set_option linter.unusedVariables false
set_option linter.unusedSimpArgs false
set_option maxHeartbeats 400000

theorem ei_u32 : ElemInfo Tryd.prog 23 34 .u32 4 := ElemInfo.mk Tryd.underlying23 (by kernel_rfl)
theorem ei_int : ElemInfo Tryd.prog 38 3 .i64 8 := ElemInfo.mk Tryd.underlying38 (by kernel_rfl)

theorem norm_any (ao : Option Addr) (cap : Nat) (L : List Nat) (w : World) (h : Ns .u32 w ao cap L) (hl : Lim L) :
    Calls Tryd.prog 165 #[.slice ao L.length cap] w fun e w' => e = .returned (.slice ao (limbs (lval L)).length (limbs (lval L)).length) ∧ w = w' := by
  obtain ⟨h1, h2, h3⟩ := h
  unfold maxLen at h2
  go_enter Tryd.func165, Tryd.ntmps165
  go_wp2_with fail
  go_loop [0] (fun v => ∃ k : Nat, k ≤ L.length ∧ v = .slice ao k cap ∧ ∀ d ∈ L.drop k, d = 0) (fun v => match v with | .slice _ k _ => k | _ => 0)
  case atStart => exact ⟨L.length, Nat.le_refl _, rfl, by simp⟩
  case round =>
    obtain ⟨k, hk, rfl, hz⟩ := hrel
    have HZ := hid hz
    clear hz
    cases k with
    | zero =>
      have e := hid (limbs_cut L hl 0 HZ.out (fun h => by simp at h))
      go_wp2
      go_ret
      refine ⟨?_, rfl⟩
      rw [e.out]; rfl
    | succ m =>
      obtain ⟨b, off, rfl, hc⟩ := h3 (by omega)
      have hcell := hc m (by omega)
      clear hc h3
      by_cases hd : lb L m = 0
      · go_wp2
        go_round
        case rel => exact ⟨m, by omega, by go_num, drop_zero_succ L m (by omega) (by unfold lb at hd; omega) HZ.out⟩
        case measure => simp
      · have hd' : (lb L m == 0) = false := by simpa using hd
        have hdn : L.getD m 0 ≠ 0 := by unfold lb at hd; omega
        have e := hid (limbs_cut L hl (m + 1) HZ.out (trim_take L m (by omega) hdn))
        clear hdn
        go_wp2
        go_ret
        refine ⟨?_, rfl⟩
        rw [e.out, List.length_take, Nat.min_eq_left (by omega)]
        rfl

theorem natOf_any (n : Nat) (hn : n < 18446744073709551616) (w : World) :
    Calls Tryd.prog 133 #[.int .u64 (n : Int)] w fun e w' => RetN w n e w' := by
  have hl : Lim [n % 4294967296, n / 4294967296] := AllLt.cons.2 ⟨by omega, AllLt.cons.2 ⟨by omega, AllLt.nil⟩⟩
  have hv : lval [n % 4294967296, n / 4294967296] = n := by unfold lval; simp only [val]; omega
  have hN : Ns .u32 (w.alloc (.cells #[.int .u32 ((n : Int) % 4294967296), .int .u32 ((n : Int) / 4294967296)] 34)) (some ⟨w.heap.size, 0, none⟩) 2 [n % 4294967296, n / 4294967296] := by
    refine ⟨by simp, by unfold maxLen; omega, fun _ => ⟨_, _, rfl, fun i hi => ?_⟩⟩
    match i, hi with
    | 0, _ => rw [World.cell?_alloc_at (hn := rfl)]; simp [lb]
    | 1, _ => rw [World.cell?_alloc_at (hn := rfl)]; simp [lb]
  have hN' := hN.norm hl
  rw [hv] at hN'
  have HV := hid hv
  clear hv
  go_enter Tryd.func133, Tryd.ntmps133
  go_wp2_with fail
  refine (norm_any _ 2 _ _ hN hl).mono ?_; rintro e w' ⟨rfl, rfl⟩
  rw [HV.out]
  go_wp2_with fail
  go_ret
  exact ⟨_, rfl, hN', below_alloc _ _⟩

theorem cmpInt_any (a b : Int) (w : World) :
    Calls Tryd.prog 169 #[.int .i64 a, .int .i64 b] w fun e w' => e = .returned (.int .i64 (cmpI a b)) ∧ w = w' := by
  have hc := hid (show cmpI a b = if a < b then -1 else if b < a then 1 else 0 from rfl)
  by_cases h1 : a < b
  · go_enter Tryd.func169, Tryd.ntmps169
    go_wp2
    go_ret
    exact ⟨ret_int (by rw [hc.out, if_pos h1]), rfl⟩
  · by_cases h2 : b < a
    all_goals
      go_enter Tryd.func169, Tryd.ntmps169
      go_wp2
      go_ret
      exact ⟨ret_int (by rw [hc.out, if_neg (by omega)]; first | rw [if_pos (by omega)] | rw [if_neg (by omega)]), rfl⟩
theorem cmpU32_any (a b : Int) (w : World) :
    Calls Tryd.prog 170 #[.int .u32 a, .int .u32 b] w fun e w' => e = .returned (.int .i64 (cmpI a b)) ∧ w = w' := by
  have hc := hid (show cmpI a b = if a < b then -1 else if b < a then 1 else 0 from rfl)
  by_cases h1 : a < b
  · go_enter Tryd.func170, Tryd.ntmps170
    go_wp2
    go_ret
    exact ⟨ret_int (by rw [hc.out, if_pos h1]), rfl⟩
  · by_cases h2 : b < a
    all_goals
      go_enter Tryd.func170, Tryd.ntmps170
      go_wp2
      go_ret
      exact ⟨ret_int (by rw [hc.out, if_neg (by omega)]; first | rw [if_pos (by omega)] | rw [if_neg (by omega)]), rfl⟩

theorem compare_any (a0 a1 : Option Addr) (c0 c1 : Nat) (m n : Nat) (w : World) (h0 : Ns .u32 w a0 c0 (limbs m)) (h1 : Ns .u32 w a1 c1 (limbs n)) :
    Calls Tryd.prog 142 #[.slice a0 (limbs m).length c0, .slice a1 (limbs n).length c1] w fun e w' => e = .returned (.int .i64 (cmpI m n)) ∧ ∃ nq, w' = w.drewN nq := by
  have hc := hid (show cmpI m n = if (m : Int) < n then -1 else if (n : Int) < m then 1 else 0 from rfl)
  obtain ⟨h01, h02, h03⟩ := h0
  obtain ⟨h11, h12, h13⟩ := h1
  unfold maxLen at h02 h12
  by_cases hl : (limbs m).length = (limbs n).length
  · have hlb : (((limbs m).length : Int) != ((limbs n).length : Int)) = false := by rw [bne_eq_false_iff_eq]; omega
    have hl1 : (limbs m).length ≤ (limbs n).length := by omega
    have hl2 : (limbs n).length ≤ (limbs m).length := by omega
    have HL := hid hl
    clear hl
    go_enter Tryd.func142, Tryd.ntmps142
    go_wp2_with fail
    go_loopw [5] (fun i wr => ∃ i0 : Int, i = .int .i64 i0 ∧ -1 ≤ i0 ∧ i0 < (limbs m).length ∧ (limbs m).drop (i0 + 1).toNat = (limbs n).drop (i0 + 1).toNat ∧ ∃ nq, wr = w.drewN nq) (fun i _ => (intOf i + 1).toNat)
    case atStart =>
      refine ⟨_, rfl, by omega, by omega, ?_, 0, rfl⟩
      rw [List.drop_eq_nil_iff.2 (by omega), List.drop_eq_nil_iff.2 (by omega)]
    case round =>
      obtain ⟨i0, rfl, hi1, hi2, hdr, nq, rfl⟩ := hrel
      by_cases hi : i0 < 0
      · have heq := hid (limbs_cmp_eq m n (by rw [show (i0 + 1).toNat = 0 by omega] at hdr; exact hdr))
        clear hdr
        go_wp2_with fail
        go_ret
        refine ⟨ret_int ?_, nq, rfl⟩
        have := heq.out
        rw [hc.out, if_neg (by omega), if_neg (by omega)]
      · obtain ⟨j, rfl⟩ := Int.eq_ofNat_of_zero_le (show 0 ≤ i0 by omega)
        rw [show ((j : Int) + 1).toNat = j + 1 by omega] at hdr
        obtain ⟨b0, o0, rfl, hc0⟩ := h03 (by omega)
        obtain ⟨b1, o1, rfl, hc1⟩ := h13 (by omega)
        have k0 := hc0 j (by omega)
        have k1 := hc1 j (by omega)
        clear hc0 hc1 h03 h13
        have HD := hid hdr
        clear hdr
        have hj1 : (j : Int) < ((limbs n).length : Int) := by omega
        by_cases he : lb (limbs m) j = lb (limbs n) j
        · have heb : (lb (limbs m) j != lb (limbs n) j) = false := by simpa using he
          have HE := hid he
          clear he
          go_wp2_with fail
          go_quiet (fail)
          go_wp2_with fail
          go_roundw
          case rel => exact ⟨(j : Int) - 1, by go_num, by omega, by omega, by rw [show ((j : Int) - 1 + 1).toNat = j by omega]; exact drop_eq_step _ _ j (by omega) (by omega) HD.out HE.out, _, rfl⟩
          case measure => simp [intOf]
        · have heb : (lb (limbs m) j != lb (limbs n) j) = true := by simpa using he
          go_wp2_with fail
          go_quiet (fail)
          go_wp2_with fail
          go_quiet ((go_at_call 170; first | exact quiet_add_left (cmpU32_any _ _ _) | exact quiet_left (cmpU32_any _ _ _)))
          go_wp2_with fail
          go_ret
          refine ⟨ret_int ?_, _, by rw [World.drewN_drewN, World.drewN_drewN]⟩
          rw [hc.out]
          rcases Int.lt_or_gt_of_ne he with hlt | hgt
          · have := limbs_cmp_top m n j HL.out (by omega) HD.out hlt
            rw [if_pos (by omega)]; unfold cmpI; rw [if_pos hlt]
          · have := limbs_cmp_top n m j HL.out.symm (by omega) HD.out.symm hgt
            rw [if_neg (by omega), if_pos (by omega)]; unfold cmpI; rw [if_neg (by omega), if_pos hgt]
  · have hlb : (((limbs m).length : Int) != ((limbs n).length : Int)) = true := by rw [bne_iff_ne]; omega
    go_enter Tryd.func142, Tryd.ntmps142
    go_wp2_with (go_at_call 169; refine (cmpInt_any _ _ _).mono ?_; rintro e w' ⟨rfl, rfl⟩)
    go_ret
    refine ⟨ret_int ?_, 0, rfl⟩
    rw [hc.out]
    rcases Nat.lt_or_gt_of_ne hl with hlt | hgt
    · have := limbs_cmp_len m n hlt
      rw [if_pos (by omega)]; unfold cmpI; rw [if_pos (by omega)]
    · have := limbs_cmp_len n m hgt
      rw [if_neg (by omega), if_pos (by omega)]; unfold cmpI; rw [if_neg (by omega), if_pos (by omega)]
end Go.Proofs.YteaakbeemhmciaaDoor
