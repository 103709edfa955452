/- TopRoot: what the proof leans on, part 3 (Tx0 Nat3 Z2 Step Z6). -/
import Derived.Lib.ItoaNum
import Derived.Test.YtpgmchpdpgahfaaGreatDoorRows
import Derived.Deep.RegionWith
import Derived.Maps.AppendAt
import Derived.Deep.RegionLaw
import Derived.Test.YtpgmchpdpgahfaaGreatDoorKTopRoot2
set_option linter.unusedVariables false
set_option linter.unusedSimpArgs false
namespace Go.Ulp
open Go.RowKit
abbrev decD := Lib.decDigits
theorem decD_small {n : Nat} (h : n < 10) : decD n = [UInt8.ofNat (48 + n)] := by unfold decD; rw [Lib.decDigits, dif_pos h]
theorem decD_big {n : Nat} (h : ¬ n < 10) : decD n = decD (n / 10) ++ [UInt8.ofNat (48 + n % 10)] := by unfold decD; conv => lhs; rw [Lib.decDigits, dif_neg h]
theorem decD_step (q d : Nat) (hq : 0 < q) (hd : d < 10) : decD (q * 10 + d) = decD q ++ [UInt8.ofNat (48 + d)] := by
  rw [decD_big (by omega), show (q * 10 + d) / 10 = q by omega, show (q * 10 + d) % 10 = d by omega]
/-- noughts ahead, up to so many places -/
def padz (k : Nat) (L : List UInt8) : List UInt8 := List.replicate (k - L.length) 48 ++ L
theorem padz_len (k : Nat) (L : List UInt8) : (padz k L).length = max k L.length := by unfold padz; rw [List.length_append, List.length_replicate]; omega
theorem padz_cons (k : Nat) (L : List UInt8) (h : L.length < k) : padz k (48 :: L) = padz k L := by
  unfold padz
  obtain ⟨j, hj⟩ : ∃ j, k - L.length = j + 1 := ⟨k - L.length - 1, by omega⟩
  rw [List.length_cons, show k - (L.length + 1) = j by omega, hj, List.replicate_succ']
  simp
theorem padz_snoc (k : Nat) (L : List UInt8) (c : UInt8) : padz (k + 1) (L ++ [c]) = padz k L ++ [c] := by
  unfold padz
  rw [List.length_append, List.length_singleton, show k + 1 - (L.length + 1) = k - L.length by omega, List.append_assoc]
theorem decD_pos (n : Nat) : 0 < (decD n).length := by
  by_cases h : n < 10
  · rw [decD_small h]; simp
  · rw [decD_big h]; simp
theorem decD_ne (n : Nat) : decD n ≠ [] := fun h => by have := decD_pos n; rw [h] at this; simp at this
theorem decD_len : ∀ (k n : Nat), n < 10 ^ (k + 1) → (decD n).length ≤ k + 1
  | 0, n, h => by rw [decD_small (by simpa using h)]; simp
  | k + 1, n, h => by
    by_cases hn : n < 10
    · rw [decD_small hn]; simp
    · rw [decD_big hn, List.length_append, List.length_singleton]
      have := decD_len k (n / 10) (by rw [Nat.pow_succ] at h; omega)
      omega
/-- a number by its digits in groups -/
theorem dec_split : ∀ (k q r : Nat), 0 < q → r < 10 ^ (k + 1) → decD (q * 10 ^ (k + 1) + r) = decD q ++ padz (k + 1) (decD r)
  | 0, q, r, hq, hr => by
    have hr' : r < 10 := by simpa using hr
    rw [Nat.pow_succ, Nat.pow_zero, Nat.one_mul, decD_step q r hq hr', decD_small hr']
    rfl
  | k + 1, q, r, hq, hr => by
    have hr2 : r / 10 < 10 ^ (k + 1) := by rw [Nat.pow_succ] at hr; omega
    have ih := dec_split k q (r / 10) hq hr2
    have e : q * 10 ^ (k + 1 + 1) + r = (q * 10 ^ (k + 1) + r / 10) * 10 + r % 10 := by
      rw [Nat.pow_succ, ← Nat.mul_assoc]; omega
    have hp : 0 < q * 10 ^ (k + 1) := Nat.mul_pos hq (Nat.pow_pos (by omega))
    rw [e, decD_step _ _ (by omega) (Nat.mod_lt _ (by omega)), ih, List.append_assoc]
    congr 1
    rw [← padz_snoc]
    by_cases hs : r < 10
    · rw [show r / 10 = 0 by omega, show r % 10 = r by omega, decD_small hs, decD_small (by omega : 0 < 10)]
      exact padz_cons (k + 1 + 1) [UInt8.ofNat (48 + r)] (by simp)
    · rw [← decD_big hs]
/-- groups of nine, the highest first -/
theorem dec_nine (a : Nat) (h : 0 < a / 1000000000) : decD a = decD (a / 1000000000) ++ padz 9 (decD (a % 1000000000)) := by
  have h1 := dec_split 8 (a / 1000000000) (a % 1000000000) h (Nat.mod_lt _ (by omega))
  rw [show (10 : Nat) ^ (8 + 1) = 1000000000 by decide, show a / 1000000000 * 1000000000 + a % 1000000000 = a by omega] at h1
  exact h1
end Go.Ulp

namespace Go.Proofs.YtpgmchpdpgahfaaGreatDoor
open Go.RowKit Go.Ulp
set_option linter.unusedVariables false
set_option linter.unusedSimpArgs false
set_option maxHeartbeats 400000

theorem ei_u32 : ElemInfo Tryz.prog 41 66 .u32 4 := ElemInfo.mk Tryz.underlying41 (by kernel_rfl)
theorem norm_any (ao : Option Addr) (cap : Nat) (L : List Nat) (w : World) (h : Ns .u32 w ao cap L) (hl : Lim L) :
    Calls Tryz.prog 72 #[.slice ao L.length cap] w fun e w' => e = .returned (.slice ao (limbs (lval L)).length (limbs (lval L)).length) ∧ w = w' := by
  obtain ⟨h1, h2, h3⟩ := h
  unfold maxLen at h2
  go_enter Tryz.func72, Tryz.ntmps72
  go_wp2_with fail
  go_loop [0] (fun v => ∃ k : Nat, k ≤ L.length ∧ v = .slice ao k cap ∧ ∀ d ∈ L.drop k, d = 0) (fun v => match v with | .slice _ k _ => k | _ => 0)
  case atStart => exact ⟨L.length, Nat.le_refl _, rfl, by simp⟩
  case round =>
    obtain ⟨k, hk, rfl, hz⟩ := hrel
    have HZ := hid hz
    clear hz
    cases k with
    | zero =>
      have e := hid (limbs_cut L hl 0 HZ.out (fun h => by simp at h))
      go_wp2
      go_ret
      refine ⟨?_, rfl⟩
      rw [e.out]; rfl
    | succ m =>
      obtain ⟨b, off, rfl, hc⟩ := h3 (by omega)
      have hcell := hc m (by omega)
      clear hc h3
      by_cases hd : lb L m = 0
      · go_wp2
        go_round
        case rel => exact ⟨m, by omega, by go_num, drop_zero_succ L m (by omega) (by unfold lb at hd; omega) HZ.out⟩
        case measure => simp
      · have hd' : (lb L m == 0) = false := by simpa using hd
        have hdn : L.getD m 0 ≠ 0 := by unfold lb at hd; omega
        have e := hid (limbs_cut L hl (m + 1) HZ.out (trim_take L m (by omega) hdn))
        clear hdn
        go_wp2
        go_ret
        refine ⟨?_, rfl⟩
        rw [e.out, List.length_take, Nat.min_eq_left (by omega)]
        rfl

theorem natOf_any (n : Nat) (hn : n < 18446744073709551616) (w : World) :
    Calls Tryz.prog 39 #[.int .u64 (n : Int)] w fun e w' => RetN w n e w' := by
  have hl : Lim [n % 4294967296, n / 4294967296] := AllLt.cons.2 ⟨by omega, AllLt.cons.2 ⟨by omega, AllLt.nil⟩⟩
  have hv : lval [n % 4294967296, n / 4294967296] = n := by unfold lval; simp only [val]; omega
  have hN : Ns .u32 (w.alloc (.cells #[.int .u32 ((n : Int) % 4294967296), .int .u32 ((n : Int) / 4294967296)] 66)) (some ⟨w.heap.size, 0, none⟩) 2 [n % 4294967296, n / 4294967296] := by
    refine ⟨by simp, by unfold maxLen; omega, fun _ => ⟨_, _, rfl, fun i hi => ?_⟩⟩
    match i, hi with
    | 0, _ => rw [World.cell?_alloc_at (hn := rfl)]; simp [lb]
    | 1, _ => rw [World.cell?_alloc_at (hn := rfl)]; simp [lb]
  have hN' := hN.norm hl
  rw [hv] at hN'
  have HV := hid hv
  clear hv
  go_enter Tryz.func39, Tryz.ntmps39
  go_wp2_with fail
  refine (norm_any _ 2 _ _ hN hl).mono ?_; rintro e w' ⟨rfl, rfl⟩
  rw [HV.out]
  go_wp2_with fail
  go_ret
  exact ⟨_, rfl, hN', below_alloc _ _⟩

theorem cmpInt_any (a b : Int) (w : World) :
    Calls Tryz.prog 23 #[.int .i64 a, .int .i64 b] w fun e w' => e = .returned (.int .i64 (cmpI a b)) ∧ w = w' := by
  have hc := hid (show cmpI a b = if a < b then -1 else if b < a then 1 else 0 from rfl)
  by_cases h1 : a < b
  · go_enter Tryz.func23, Tryz.ntmps23
    go_wp2
    go_ret
    exact ⟨ret_int (by rw [hc.out, if_pos h1]), rfl⟩
  · by_cases h2 : b < a
    all_goals
      go_enter Tryz.func23, Tryz.ntmps23
      go_wp2
      go_ret
      exact ⟨ret_int (by rw [hc.out, if_neg (by omega)]; first | rw [if_pos (by omega)] | rw [if_neg (by omega)]), rfl⟩
theorem cmpU32_any (a b : Int) (w : World) :
    Calls Tryz.prog 74 #[.int .u32 a, .int .u32 b] w fun e w' => e = .returned (.int .i64 (cmpI a b)) ∧ w = w' := by
  have hc := hid (show cmpI a b = if a < b then -1 else if b < a then 1 else 0 from rfl)
  by_cases h1 : a < b
  · go_enter Tryz.func74, Tryz.ntmps74
    go_wp2
    go_ret
    exact ⟨ret_int (by rw [hc.out, if_pos h1]), rfl⟩
  · by_cases h2 : b < a
    all_goals
      go_enter Tryz.func74, Tryz.ntmps74
      go_wp2
      go_ret
      exact ⟨ret_int (by rw [hc.out, if_neg (by omega)]; first | rw [if_pos (by omega)] | rw [if_neg (by omega)]), rfl⟩

theorem compare_any (a0 a1 : Option Addr) (c0 c1 : Nat) (m n : Nat) (w : World) (h0 : Ns .u32 w a0 c0 (limbs m)) (h1 : Ns .u32 w a1 c1 (limbs n)) :
    Calls Tryz.prog 36 #[.slice a0 (limbs m).length c0, .slice a1 (limbs n).length c1] w fun e w' => e = .returned (.int .i64 (cmpI m n)) ∧ ∃ nq, w' = w.drewN nq := by
  have hc := hid (show cmpI m n = if (m : Int) < n then -1 else if (n : Int) < m then 1 else 0 from rfl)
  obtain ⟨h01, h02, h03⟩ := h0
  obtain ⟨h11, h12, h13⟩ := h1
  unfold maxLen at h02 h12
  by_cases hl : (limbs m).length = (limbs n).length
  · have hlb : (((limbs m).length : Int) != ((limbs n).length : Int)) = false := by rw [bne_eq_false_iff_eq]; omega
    have hl1 : (limbs m).length ≤ (limbs n).length := by omega
    have hl2 : (limbs n).length ≤ (limbs m).length := by omega
    have HL := hid hl
    clear hl
    go_enter Tryz.func36, Tryz.ntmps36
    go_wp2_with fail
    go_loopw [5] (fun i wr => ∃ i0 : Int, i = .int .i64 i0 ∧ -1 ≤ i0 ∧ i0 < (limbs m).length ∧ (limbs m).drop (i0 + 1).toNat = (limbs n).drop (i0 + 1).toNat ∧ ∃ nq, wr = w.drewN nq) (fun i _ => (intOf i + 1).toNat)
    case atStart =>
      refine ⟨_, rfl, by omega, by omega, ?_, 0, rfl⟩
      rw [List.drop_eq_nil_iff.2 (by omega), List.drop_eq_nil_iff.2 (by omega)]
    case round =>
      obtain ⟨i0, rfl, hi1, hi2, hdr, nq, rfl⟩ := hrel
      by_cases hi : i0 < 0
      · have heq := hid (limbs_cmp_eq m n (by rw [show (i0 + 1).toNat = 0 by omega] at hdr; exact hdr))
        clear hdr
        go_wp2_with fail
        go_ret
        refine ⟨ret_int ?_, nq, rfl⟩
        have := heq.out
        rw [hc.out, if_neg (by omega), if_neg (by omega)]
      · obtain ⟨j, rfl⟩ := Int.eq_ofNat_of_zero_le (show 0 ≤ i0 by omega)
        rw [show ((j : Int) + 1).toNat = j + 1 by omega] at hdr
        obtain ⟨b0, o0, rfl, hc0⟩ := h03 (by omega)
        obtain ⟨b1, o1, rfl, hc1⟩ := h13 (by omega)
        have k0 := hc0 j (by omega)
        have k1 := hc1 j (by omega)
        clear hc0 hc1 h03 h13
        have HD := hid hdr
        clear hdr
        have hj1 : (j : Int) < ((limbs n).length : Int) := by omega
        by_cases he : lb (limbs m) j = lb (limbs n) j
        · have heb : (lb (limbs m) j != lb (limbs n) j) = false := by simpa using he
          have HE := hid he
          clear he
          go_wp2_with fail
          go_quiet (fail)
          go_wp2_with fail
          go_roundw
          case rel => exact ⟨(j : Int) - 1, by go_num, by omega, by omega, by rw [show ((j : Int) - 1 + 1).toNat = j by omega]; exact drop_eq_step _ _ j (by omega) (by omega) HD.out HE.out, _, rfl⟩
          case measure => simp [intOf]
        · have heb : (lb (limbs m) j != lb (limbs n) j) = true := by simpa using he
          go_wp2_with fail
          go_quiet (fail)
          go_wp2_with fail
          go_quiet ((go_at_call 74; first | exact quiet_add_left (cmpU32_any _ _ _) | exact quiet_left (cmpU32_any _ _ _)))
          go_wp2_with fail
          go_ret
          refine ⟨ret_int ?_, _, by rw [World.drewN_drewN, World.drewN_drewN]⟩
          rw [hc.out]
          rcases Int.lt_or_gt_of_ne he with hlt | hgt
          · have := limbs_cmp_top m n j HL.out (by omega) HD.out hlt
            rw [if_pos (by omega)]; unfold cmpI; rw [if_pos hlt]
          · have := limbs_cmp_top n m j HL.out.symm (by omega) HD.out.symm hgt
            rw [if_neg (by omega), if_pos (by omega)]; unfold cmpI; rw [if_neg (by omega), if_pos hgt]
  · have hlb : (((limbs m).length : Int) != ((limbs n).length : Int)) = true := by rw [bne_iff_ne]; omega
    go_enter Tryz.func36, Tryz.ntmps36
    go_wp2_with (go_at_call 23; refine (cmpInt_any _ _ _).mono ?_; rintro e w' ⟨rfl, rfl⟩)
    go_ret
    refine ⟨ret_int ?_, 0, rfl⟩
    rw [hc.out]
    rcases Nat.lt_or_gt_of_ne hl with hlt | hgt
    · have := limbs_cmp_len m n hlt
      rw [if_pos (by omega)]; unfold cmpI; rw [if_pos (by omega)]
    · have := limbs_cmp_len n m hgt
      rw [if_neg (by omega), if_pos (by omega)]; unfold cmpI; rw [if_neg (by omega), if_pos (by omega)]
end Go.Proofs.YtpgmchpdpgahfaaGreatDoor
namespace Go.Ulp
theorem plus_step {m n c x y : Nat} (h : m + 4294967296 ^ n * c = x + y) (u v : Nat) :
    m + 4294967296 ^ n * ((c + u + v) % 4294967296) + 4294967296 ^ (n + 1) * ((c + u + v) / 4294967296) = (x + 4294967296 ^ n * u) + (y + 4294967296 ^ n * v) := by
  rw [Nat.pow_succ, Nat.mul_assoc, Nat.add_assoc, ← Nat.mul_add, Nat.mod_add_div, Nat.mul_add, Nat.mul_add]; omega
end Go.Ulp
namespace Go.Proofs.YtpgmchpdpgahfaaGreatDoor
open Go.RowKit Go.Ulp
set_option linter.unusedVariables false
set_option linter.unusedSimpArgs false
set_option maxHeartbeats 400000
set_option maxRecDepth 100000

theorem plus_core (aL aM : Option Addr) (cL cM : Nat) (m n : Nat) (w : World) (hL : Ns .u32 w aL cL (limbs m)) (hM : Ns .u32 w aM cM (limbs n)) (hs : (limbs m).length ≤ 4294967296)
    (args : Array Value) (hargs : (args = #[.slice aL (limbs m).length cL, .slice aM (limbs n).length cM] ∧ (limbs n).length ≤ (limbs m).length ∧ decide ((limbs m).length < (limbs n).length) = false) ∨ (args = #[.slice aM (limbs n).length cM, .slice aL (limbs m).length cL] ∧ (limbs n).length ≤ (limbs m).length ∧ decide ((limbs n).length < (limbs m).length) = true)) :
    Calls Tryz.prog 56 args w fun e w' => RetN w (m + n) e w' := by
  have lL := limbs_lim m
  have lM := limbs_lim n
  obtain ⟨hL1, hL2, hL3⟩ := hL
  obtain ⟨hM1, hM2, hM3⟩ := hM
  unfold maxLen at hL2 hM2
  rcases hargs with ⟨rfl, hlen, hdl⟩ | ⟨rfl, hlen, hdl⟩
  all_goals
    go_enter Tryz.func56, Tryz.ntmps56
    go_wp2_with fail
    go_loopw [5, 6, 18] (fun o c i wr => ∃ (k cc : Nat) (Q : List Nat), k ≤ (limbs m).length ∧ i = .int .i64 k ∧ c = .int .u64 cc ∧ cc ≤ 1 ∧ Q.length = k ∧ Lim Q ∧ lval Q + 4294967296 ^ k * cc = lval ((limbs m).take k) + lval ((limbs n).take k) ∧ Own w.heap.size 66 .u32 wr o Q ∧ Below w.heap.size w wr) (fun _ _ i _ => (limbs m).length - (intOf i).toNat)
    case atStart => exact ⟨0, 0, [], by omega, rfl, rfl, by omega, rfl, AllLt.nil, by simp [lval, val], Own.nil, Below.refl _ _⟩
    case round =>
      obtain ⟨k, cc, Q, hk, rfl, rfl, hcc, hQ, lQ, hv, hown, hb⟩ := hrel
      have HQ := hid hQ
      have HV := hid hv
      clear hQ hv
      by_cases hlt : k < (limbs m).length
      · obtain ⟨b0, o0, rfl, hc0⟩ := hL3 (by omega)
        obtain ⟨x, hx⟩ : ∃ x, x = (limbs m).getD k 0 := ⟨_, rfl⟩
        have hx1 : x < 4294967296 := by rw [hx]; exact lL.getD (by omega) k
        have hcell : wr.cell? ⟨b0, o0 + k, none⟩ = some (.int .u32 (x : Int)) := by
          have h1 := hc0 k hlt
          have h2 := hb.cell (p := ⟨b0, o0 + k, none⟩) (World.block_lt_of_cell? w _ h1)
          rw [h2, h1, hx]; rfl
        clear hc0 hL3
        have HX := hid hx
        clear hx
        by_cases hlt2 : k < (limbs n).length
        · obtain ⟨b1, o1, rfl, hc1⟩ := hM3 (by omega)
          obtain ⟨y, hy⟩ : ∃ y, y = (limbs n).getD k 0 := ⟨_, rfl⟩
          have hy1 : y < 4294967296 := by rw [hy]; exact lM.getD (by omega) k
          have hcell1 : wr.cell? ⟨b1, o1 + k, none⟩ = some (.int .u32 (y : Int)) := by
            have h1 := hc1 k hlt2
            have h2 := hb.cell (p := ⟨b1, o1 + k, none⟩) (World.block_lt_of_cell? w _ h1)
            rw [h2, h1, hy]; rfl
          clear hc1 hM3
          have HY := hid hy
          clear hy
          go_wp2_with (at_builtin; refine wpList_push ei_u32 (by omega) rfl _ _ rfl w.heap.size Q ((cc + x + y) % 4294967296) _ rfl (Own.alloc hown _) ⟨wr.heap.size, 0, none⟩ rfl (cell_push _ _ _ _ _ (by omega)) (by rw [HQ.out]; omega) (by simp; have := hb.size; omega) ?_; intro v1 w1 hown1 hb1)
          go_roundw
          case rel => exact ⟨k + 1, (cc + x + y) / 4294967296, Q ++ [(cc + x + y) % 4294967296], by omega, by go_num, by go_num, by omega, by rw [List.length_append, HQ.out]; rfl, AllLt.append.2 ⟨lQ, AllLt.cons.2 ⟨Nat.mod_lt _ (by omega), AllLt.nil⟩⟩, by
              have := plus_step HV.out x y
              unfold lval at *
              rw [val_snoc, HQ.out, val_take_succ _ _ _ hlt, val_take_succ _ _ _ hlt2, ← HX.out, ← HY.out]; exact this, hown1, (hb.trans ((below_alloc wr _).mono hb.size)).trans hb1⟩
          case measure => simp [intOf]; omega
        · have HY := hid (show (limbs n).take (k + 1) = (limbs n).take k by rw [List.take_of_length_le (by omega), List.take_of_length_le (by omega)])
          go_wp2_with (at_builtin; refine wpList_push ei_u32 (by omega) rfl _ _ rfl w.heap.size Q ((cc + x) % 4294967296) _ rfl (Own.alloc hown _) ⟨wr.heap.size, 0, none⟩ rfl (cell_push _ _ _ _ _ (by omega)) (by rw [HQ.out]; omega) (by simp; have := hb.size; omega) ?_; intro v1 w1 hown1 hb1)
          go_roundw
          case rel => exact ⟨k + 1, (cc + x) / 4294967296, Q ++ [(cc + x) % 4294967296], by omega, by go_num, by go_num, by omega, by rw [List.length_append, HQ.out]; rfl, AllLt.append.2 ⟨lQ, AllLt.cons.2 ⟨Nat.mod_lt _ (by omega), AllLt.nil⟩⟩, by
              have := plus_step HV.out x 0
              unfold lval at *
              rw [val_snoc, HQ.out, val_take_succ _ _ _ hlt, HY.out, ← HX.out]; simpa using this, hown1, (hb.trans ((below_alloc wr _).mono hb.size)).trans hb1⟩
          case measure => simp [intOf]; omega
      · have hke : k = (limbs m).length := by omega
        have hfin : lval (Q ++ [cc]) = m + n := by
          have := HV.out
          rw [hke, List.take_of_length_le (Nat.le_refl _), List.take_of_length_le hlen, lval_limbs, lval_limbs, ← hke] at this
          unfold lval at *
          rw [val_snoc, HQ.out]; exact this
        have HF := hid hfin
        clear hfin hke
        go_wp2_with (at_builtin; refine wpList_push ei_u32 (by omega) rfl _ _ rfl w.heap.size Q cc _ rfl (Own.alloc hown _) ⟨wr.heap.size, 0, none⟩ rfl (cell_push _ _ _ _ _ (by omega)) (by rw [HQ.out]; omega) (by simp; have := hb.size; omega) ?_; intro v1 w1 hown1 hb1)
        obtain ⟨ao, cap, rfl, hN⟩ := hown1.ns
        go_wp2_with fail
        have lQ1 : Lim (Q ++ [cc]) := AllLt.append.2 ⟨lQ, AllLt.cons.2 ⟨by omega, AllLt.nil⟩⟩
        refine (norm_any _ _ _ _ hN lQ1).mono ?_
        rintro e w' ⟨rfl, rfl⟩
        have hN' := hN.norm lQ1
        rw [HF.out] at hN' ⊢
        go_wp2_with fail
        go_ret
        exact ⟨_, rfl, hN', (hb.trans ((below_alloc wr _).mono hb.size)).trans hb1⟩
end Go.Proofs.YtpgmchpdpgahfaaGreatDoor
namespace Go.Ulp
theorem minus_step0 {m n q b k : Nat} (h : m + 4294967296 ^ k * b = q + n) (x y : Nat) (hxy : b + y ≤ x) :
    (m + 4294967296 ^ k * x) + 4294967296 ^ (k + 1) * 0 = (q + 4294967296 ^ k * (x - b - y)) + (n + 4294967296 ^ k * y) := by
  obtain ⟨z, rfl⟩ : ∃ z, x = z + b + y := ⟨x - b - y, by omega⟩
  rw [show z + b + y - b - y = z by omega, Nat.mul_add, Nat.mul_add]; omega
theorem minus_step1 {m n q b k : Nat} (h : m + 4294967296 ^ k * b = q + n) (x y : Nat) (hx : x < 4294967296) (hy : y < 4294967296) (hb : b ≤ 1) (hxy : x < b + y) :
    (m + 4294967296 ^ k * x) + 4294967296 ^ (k + 1) * 1 = (q + 4294967296 ^ k * (x + 4294967296 - b - y)) + (n + 4294967296 ^ k * y) := by
  obtain ⟨z, hz⟩ : ∃ z, x + 4294967296 = z + b + y := ⟨x + 4294967296 - b - y, by omega⟩
  have e := congrArg (fun t => 4294967296 ^ k * t) hz
  simp only [Nat.mul_add] at e
  rw [show x + 4294967296 - b - y = z by omega, Nat.pow_succ, Nat.mul_one]; omega
theorem minus_end {m n q b k : Nat} (h : m + 4294967296 ^ k * b = q + n) (hb : b ≤ 1) (hq : q < 4294967296 ^ k) (hn : n ≤ m) : q = m - n := by
  have : b = 0 ∨ b = 1 := by omega
  rcases this with rfl | rfl
  · omega
  · rw [Nat.mul_one] at h; omega
end Go.Ulp
namespace Go.Proofs.YtpgmchpdpgahfaaGreatDoor
open Go.RowKit Go.Ulp
set_option linter.unusedVariables false
set_option linter.unusedSimpArgs false
set_option maxHeartbeats 400000
set_option maxRecDepth 100000

theorem plus_any (a0 a1 : Option Addr) (c0 c1 : Nat) (m n : Nat) (w : World) (h0 : Ns .u32 w a0 c0 (limbs m)) (h1 : Ns .u32 w a1 c1 (limbs n)) (hm : (limbs m).length ≤ 4294967296) (hn : (limbs n).length ≤ 4294967296) :
    Calls Tryz.prog 56 #[.slice a0 (limbs m).length c0, .slice a1 (limbs n).length c1] w fun e w' => RetN w (m + n) e w' := by
  by_cases h : (limbs m).length < (limbs n).length
  · have := plus_core a1 a0 c1 c0 n m w h1 h0 hn _ (.inr ⟨rfl, by omega, by simpa using h⟩)
    rwa [Nat.add_comm] at this
  · exact plus_core a0 a1 c0 c1 m n w h0 h1 hm _ (.inl ⟨rfl, by omega, by simpa using h⟩)

theorem minus_any (aL aM : Option Addr) (cL cM : Nat) (m n : Nat) (w : World) (hL : Ns .u32 w aL cL (limbs m)) (hM : Ns .u32 w aM cM (limbs n)) (hs : (limbs m).length ≤ 4294967296) (hnm : n ≤ m) :
    Calls Tryz.prog 70 #[.slice aL (limbs m).length cL, .slice aM (limbs n).length cM] w fun e w' => RetN w (m - n) e w' := by
  have lL := limbs_lim m
  have lM := limbs_lim n
  have hlen : (limbs n).length ≤ (limbs m).length := digs_len_mono _ (by omega) hnm
  have HNM := hid hnm
  clear hnm
  obtain ⟨hL1, hL2, hL3⟩ := hL
  obtain ⟨hM1, hM2, hM3⟩ := hM
  unfold maxLen at hL2 hM2
  go_enter Tryz.func70, Tryz.ntmps70
  go_wp2_with fail
  go_loopw [5, 6, 12] (fun o c i wr => ∃ (k bb : Nat) (Q : List Nat), k ≤ (limbs m).length ∧ i = .int .i64 k ∧ c = .int .i64 bb ∧ bb ≤ 1 ∧ Q.length = k ∧ Lim Q ∧ lval ((limbs m).take k) + 4294967296 ^ k * bb = lval Q + lval ((limbs n).take k) ∧ Own w.heap.size 66 .u32 wr o Q ∧ Below w.heap.size w wr) (fun _ _ i _ => (limbs m).length - (intOf i).toNat)
  case atStart => exact ⟨0, 0, [], by omega, rfl, rfl, by omega, rfl, AllLt.nil, by simp [lval, val], Own.nil, Below.refl _ _⟩
  case round =>
    obtain ⟨k, bb, Q, hk, rfl, rfl, hbb, hQ, lQ, hv, hown, hb⟩ := hrel
    have HQ := hid hQ
    have HV := hid hv
    clear hQ hv
    by_cases hlt : k < (limbs m).length
    · obtain ⟨b0, o0, rfl, hc0⟩ := hL3 (by omega)
      obtain ⟨x, hx⟩ : ∃ x, x = (limbs m).getD k 0 := ⟨_, rfl⟩
      have hx1 : x < 4294967296 := by rw [hx]; exact lL.getD (by omega) k
      have hcell : wr.cell? ⟨b0, o0 + k, none⟩ = some (.int .u32 (x : Int)) := by
        have h1 := hc0 k hlt
        have h2 := hb.cell (p := ⟨b0, o0 + k, none⟩) (World.block_lt_of_cell? w _ h1)
        rw [h2, h1, hx]; rfl
      clear hc0 hL3
      have HX := hid hx
      clear hx
      by_cases hlt2 : k < (limbs n).length
      · obtain ⟨b1, o1, rfl, hc1⟩ := hM3 (by omega)
        obtain ⟨y, hy⟩ : ∃ y, y = (limbs n).getD k 0 := ⟨_, rfl⟩
        have hy1 : y < 4294967296 := by rw [hy]; exact lM.getD (by omega) k
        have hcell1 : wr.cell? ⟨b1, o1 + k, none⟩ = some (.int .u32 (y : Int)) := by
          have h1 := hc1 k hlt2
          have h2 := hb.cell (p := ⟨b1, o1 + k, none⟩) (World.block_lt_of_cell? w _ h1)
          rw [h2, h1, hy]; rfl
        clear hc1 hM3
        have HY := hid hy
        clear hy
        by_cases hxy : x < bb + y
        · go_wp2_with (at_builtin; refine wpList_push ei_u32 (by omega) rfl _ _ rfl w.heap.size Q (x + 4294967296 - bb - y) _ rfl (Own.alloc hown _) ⟨wr.heap.size, 0, none⟩ rfl (cell_push _ _ _ _ _ (by omega)) (by rw [HQ.out]; omega) (by simp; have := hb.size; omega) ?_; intro v1 w1 hown1 hb1)
          go_roundw
          case rel => exact ⟨k + 1, 1, Q ++ [x + 4294967296 - bb - y], by omega, by go_num, by go_num, by omega, by rw [List.length_append, HQ.out]; rfl, AllLt.append.2 ⟨lQ, AllLt.cons.2 ⟨by omega, AllLt.nil⟩⟩, by
              have := minus_step1 HV.out x y hx1 hy1 hbb hxy
              unfold lval at *
              rw [val_snoc, HQ.out, val_take_succ _ _ _ hlt, val_take_succ _ _ _ hlt2, ← HX.out, ← HY.out]; exact this, hown1, (hb.trans ((below_alloc wr _).mono hb.size)).trans hb1⟩
          case measure => simp [intOf]; omega
        · go_wp2_with (at_builtin; refine wpList_push ei_u32 (by omega) rfl _ _ rfl w.heap.size Q (x - bb - y) _ rfl (Own.alloc hown _) ⟨wr.heap.size, 0, none⟩ rfl (cell_push _ _ _ _ _ (by omega)) (by rw [HQ.out]; omega) (by simp; have := hb.size; omega) ?_; intro v1 w1 hown1 hb1)
          go_roundw
          case rel => exact ⟨k + 1, 0, Q ++ [x - bb - y], by omega, by go_num, by go_num, by omega, by rw [List.length_append, HQ.out]; rfl, AllLt.append.2 ⟨lQ, AllLt.cons.2 ⟨by omega, AllLt.nil⟩⟩, by
              have := minus_step0 HV.out x y (by omega)
              unfold lval at *
              rw [val_snoc, HQ.out, val_take_succ _ _ _ hlt, val_take_succ _ _ _ hlt2, ← HX.out, ← HY.out]; exact this, hown1, (hb.trans ((below_alloc wr _).mono hb.size)).trans hb1⟩
          case measure => simp [intOf]; omega
      · have HY := hid (show (limbs n).take (k + 1) = (limbs n).take k by rw [List.take_of_length_le (by omega), List.take_of_length_le (by omega)])
        by_cases hxy : x < bb
        · go_wp2_with (at_builtin; refine wpList_push ei_u32 (by omega) rfl _ _ rfl w.heap.size Q (x + 4294967296 - bb) _ rfl (Own.alloc hown _) ⟨wr.heap.size, 0, none⟩ rfl (cell_push _ _ _ _ _ (by omega)) (by rw [HQ.out]; omega) (by simp; have := hb.size; omega) ?_; intro v1 w1 hown1 hb1)
          go_roundw
          case rel => exact ⟨k + 1, 1, Q ++ [x + 4294967296 - bb], by omega, by go_num, by go_num, by omega, by rw [List.length_append, HQ.out]; rfl, AllLt.append.2 ⟨lQ, AllLt.cons.2 ⟨by omega, AllLt.nil⟩⟩, by
              have := minus_step1 HV.out x 0 hx1 (by omega) hbb (by omega)
              unfold lval at *
              rw [val_snoc, HQ.out, val_take_succ _ _ _ hlt, HY.out, ← HX.out]; simpa using this, hown1, (hb.trans ((below_alloc wr _).mono hb.size)).trans hb1⟩
          case measure => simp [intOf]; omega
        · go_wp2_with (at_builtin; refine wpList_push ei_u32 (by omega) rfl _ _ rfl w.heap.size Q (x - bb) _ rfl (Own.alloc hown _) ⟨wr.heap.size, 0, none⟩ rfl (cell_push _ _ _ _ _ (by omega)) (by rw [HQ.out]; omega) (by simp; have := hb.size; omega) ?_; intro v1 w1 hown1 hb1)
          go_roundw
          case rel => exact ⟨k + 1, 0, Q ++ [x - bb], by omega, by go_num, by go_num, by omega, by rw [List.length_append, HQ.out]; rfl, AllLt.append.2 ⟨lQ, AllLt.cons.2 ⟨by omega, AllLt.nil⟩⟩, by
              have := minus_step0 HV.out x 0 (by omega)
              unfold lval at *
              rw [val_snoc, HQ.out, val_take_succ _ _ _ hlt, HY.out, ← HX.out]; simpa using this, hown1, (hb.trans ((below_alloc wr _).mono hb.size)).trans hb1⟩
          case measure => simp [intOf]; omega
    · have hke : k = (limbs m).length := by omega
      have hfin : lval Q = m - n := by
        have := HV.out
        rw [hke, List.take_of_length_le (Nat.le_refl _), List.take_of_length_le hlen, lval_limbs, lval_limbs, ← hke] at this
        exact minus_end this hbb (by have := lval_lt Q lQ; rwa [HQ.out] at this) HNM.out
      have HF := hid hfin
      clear hfin hke
      obtain ⟨ao, cap, rfl, hN⟩ := hown.ns
      go_wp2_with fail
      refine (norm_any _ _ _ _ hN lQ).mono ?_
      rintro e w' ⟨rfl, rfl⟩
      have hN' := hN.norm lQ
      rw [HF.out] at hN' ⊢
      go_wp2_with fail
      go_ret
      exact ⟨_, rfl, hN', hb⟩
end Go.Proofs.YtpgmchpdpgahfaaGreatDoor

namespace Go.Ulp
open Go.RowKit
def zneg (x : Int) : Bool := decide (x < 0)
def zl (x : Int) : List Nat := decs x.natAbs
/-- what a call leaves that hands back a whole number -/
def RetZ (t : TypeId) (w : World) (x : Int) (e : Ending) (w' : World) : Prop :=
  ∃ ao cap, e = .returned (.agg #[.bool (zneg x), .slice ao (zl x).length cap]) ∧ Nz t w' ao cap (zl x) ∧ Below w.heap.size w w'
/-- as RetZ: at the address ao -/
def RetZA (t : TypeId) (ao : Option Addr) (w : World) (x : Int) (e : Ending) (w' : World) : Prop :=
  ∃ cap, e = .returned (.agg #[.bool (zneg x), .slice ao (zl x).length cap]) ∧ Nz t w' ao cap (zl x) ∧ Below w.heap.size w w'
/-- as RetZ: in memory that was made since -/
def RetZF (t : TypeId) (w : World) (x : Int) (e : Ending) (w' : World) : Prop :=
  ∃ ao cap, e = .returned (.agg #[.bool (zneg x), .slice ao (zl x).length cap]) ∧ Nz t w' ao cap (zl x) ∧ Below w.heap.size w w' ∧ ∀ p, ao = some p → w.heap.size ≤ p.block
theorem RetZA.any {t : TypeId} {ao : Option Addr} {w : World} {x : Int} {e : Ending} {w' : World} (h : RetZA t ao w x e w') : RetZ t w x e w' := by
  obtain ⟨cap, h1, h2, h3⟩ := h; exact ⟨ao, cap, h1, h2, h3⟩
theorem RetZF.any {t : TypeId} {w : World} {x : Int} {e : Ending} {w' : World} (h : RetZF t w x e w') : RetZ t w x e w' := by
  obtain ⟨ao, cap, h1, h2, h3, _⟩ := h; exact ⟨ao, cap, h1, h2, h3⟩
/-- block g is a variable of type Z (number t): a sign and a list -/
def ZL (t : TypeId) (w : World) (g : Nat) (n : Bool) (v : Value) : Prop :=
  w.cell? ⟨g, 0, none⟩ = some (.bool n) ∧ w.cell? ⟨g, 1, none⟩ = some v ∧ w.frozen? ⟨g, 0, none⟩ = false ∧ w.frozen? ⟨g, 1, none⟩ = false ∧ ElemIs w g t
theorem ZL.lt {t : TypeId} {w : World} {g : Nat} {n : Bool} {v : Value} (h : ZL t w g n v) : g < w.heap.size := h.2.2.2.2.lt
theorem ZL.belowB {t : TypeId} {B : Nat} {w w' : World} {g : Nat} {n : Bool} {v : Value} (h : ZL t w g n v) (hb : Below B w w') (hB : g < B) : ZL t w' g n v :=
  ⟨(hb.cell (p := ⟨g, 0, none⟩) hB).trans h.1, (hb.cell (p := ⟨g, 1, none⟩) hB).trans h.2.1, (hb.frozen (p := ⟨g, 0, none⟩) hB).trans h.2.2.1, (hb.frozen (p := ⟨g, 1, none⟩) hB).trans h.2.2.2.1, h.2.2.2.2.belowB hb hB⟩
theorem ZL.below {t : TypeId} {w w' : World} {g : Nat} {n : Bool} {v : Value} (h : ZL t w g n v) (hb : Below w.heap.size w w') : ZL t w' g n v := h.belowB hb h.lt
theorem ZL.alloc {t : TypeId} {w : World} {g : Nat} {n : Bool} {v : Value} (h : ZL t w g n v) (o : Obj) : ZL t (w.alloc o) g n v := h.below (below_alloc _ _)
theorem ZL.made {t : TypeId} {w : World} {g : Nat} {n : Bool} {v : Value} (hg : g = w.heap.size) : ZL t (w.alloc (.cells #[.bool n, v] t)) g n v := by
  subst hg
  refine ⟨?_, ?_, ?_, ?_, ElemIs.made _ _ _⟩
  · rw [World.cell?_alloc_at (hn := rfl)]; rfl
  · rw [World.cell?_alloc_at (hn := rfl)]; rfl
  · unfold World.frozen?; rw [heap_alloc_new]; simp
  · unfold World.frozen?; rw [heap_alloc_new]; simp
theorem frozen_setCell (w : World) (a p : Addr) (u : Value) : (w.setCell a u).frozen? p = w.frozen? p := by
  by_cases h : a.block = p.block
  · simp only [World.frozen?, World.setCell, Array.getElem?_modify]
    rw [if_pos h, ← h]
    cases hx : w.heap[a.block]? with
    | none => rfl
    | some o => cases o <;> rfl
  · exact World.frozen?_of_block (Below.heap_setCell _ _ _ _ (fun e => h e.symm))
theorem ZL.far {t : TypeId} {w : World} {g : Nat} {n : Bool} {v : Value} (h : ZL t w g n v) (a : Addr) (u : Value) (hne : g ≠ a.block) : ZL t (w.setCell a u) g n v := by
  refine ⟨?_, ?_, ?_, ?_, h.2.2.2.2.setCell _ _⟩
  · rw [World.cell?_setCell_other (h := fun e => hne (by rw [e]))]; exact h.1
  · rw [World.cell?_setCell_other (h := fun e => hne (by rw [e]))]; exact h.2.1
  · rw [frozen_setCell]; exact h.2.2.1
  · rw [frozen_setCell]; exact h.2.2.2.1
theorem ZL.set1 {t : TypeId} {w : World} {g : Nat} {n : Bool} {v : Value} (h : ZL t w g n v) (u : Value) : ZL t (w.setCell ⟨g, 1, none⟩ u) g n u := by
  refine ⟨?_, ?_, ?_, ?_, h.2.2.2.2.setCell _ _⟩
  · rw [World.cell?_setCell_other (h := by simp)]; exact h.1
  · exact World.cell?_setCell_same _ _ _ h.2.1
  · rw [frozen_setCell]; exact h.2.2.1
  · rw [frozen_setCell]; exact h.2.2.2.1
theorem ZL.set0 {t : TypeId} {w : World} {g : Nat} {n : Bool} {v : Value} (h : ZL t w g n v) (u : Bool) : ZL t (w.setCell ⟨g, 0, none⟩ (.bool u)) g u v := by
  refine ⟨?_, ?_, ?_, ?_, h.2.2.2.2.setCell _ _⟩
  · exact World.cell?_setCell_same _ _ _ h.1
  · rw [World.cell?_setCell_other (h := by simp)]; exact h.2.1
  · rw [frozen_setCell]; exact h.2.2.1
  · rw [frozen_setCell]; exact h.2.2.2.1
end Go.Ulp
namespace Go.Proofs.YtpgmchpdpgahfaaGreatDoor
open Go.RowKit Go.Ulp
set_option linter.unusedVariables false
set_option linter.unusedSimpArgs false
set_option maxHeartbeats 400000
end Go.Proofs.YtpgmchpdpgahfaaGreatDoor
namespace Go.Ulp
open Go.RowKit
end Go.Ulp
namespace Go.Proofs.YtpgmchpdpgahfaaGreatDoor
open Go.RowKit Go.Ulp
set_option linter.unusedVariables false
set_option linter.unusedSimpArgs false
set_option maxHeartbeats 400000
theorem _root_.Go.Ulp.RetZ.pre {t : TypeId} {w w1 : World} {x : Int} {e : Ending} {w' : World} (h : RetZ t w1 x e w') (hb : Below w.heap.size w w1) : RetZ t w x e w' := by
  obtain ⟨ao, cap, h1, h2, h3⟩ := h
  exact ⟨ao, cap, h1, h2, below_trans hb h3⟩
end Go.Proofs.YtpgmchpdpgahfaaGreatDoor

namespace Go.Ulp
open Go.RowKit
end Go.Ulp
namespace Go.Proofs.YtpgmchpdpgahfaaGreatDoor
open Go.RowKit Go.Ulp
set_option linter.unusedVariables false
set_option linter.unusedSimpArgs false
set_option maxHeartbeats 1000000
set_option maxRecDepth 100000
end Go.Proofs.YtpgmchpdpgahfaaGreatDoor
namespace Go.Ulp
open Go.RowKit
end Go.Ulp
namespace Go.Proofs.YtpgmchpdpgahfaaGreatDoor
open Go.RowKit Go.Ulp
set_option linter.unusedVariables false
set_option linter.unusedSimpArgs false
set_option maxHeartbeats 1000000
set_option maxRecDepth 100000
end Go.Proofs.YtpgmchpdpgahfaaGreatDoor
namespace Go.Ulp
theorem ZL.drew {t : TypeId} {w : World} {g : Nat} {n : Bool} {v : Value} (h : ZL t w g n v) : ZL t w.drew g n v := h
theorem ZL.drewN {t : TypeId} {w : World} {g : Nat} {n : Bool} {v : Value} (h : ZL t w g n v) (k : Nat) : ZL t (w.drewN k) g n v := h
end Go.Ulp
namespace Go.Proofs.YtpgmchpdpgahfaaGreatDoor
open Go.RowKit Go.Ulp
set_option linter.unusedVariables false
set_option linter.unusedSimpArgs false
set_option maxHeartbeats 1000000
set_option maxRecDepth 100000
end Go.Proofs.YtpgmchpdpgahfaaGreatDoor
set_option linter.unusedVariables false
set_option linter.unusedSimpArgs false
namespace Go.Ulp
open Go.RowKit
theorem below_al {w w' : World} (h : Below w.heap.size w w') (o : Obj) : Below w.heap.size w (w'.alloc o) := h.alloc h.size o
section
variable {P : Program} {w : World}
theorem run_push_nil {t ty e : TypeId} {k : IntKind} {bytes : Nat} (he : ElemInfo P t e k bytes) (base : Nat) (v : Value) (L : List Nat) (hown : Own base e k w v L) (ao : Option Addr) (c : Nat) (hao : ao = none) :
    (Builtin.append_ #[t, t] ty #[v, .slice ao 0 c]).run P w = .ok v w := by
  subst hao
  obtain ⟨ht, i, hi, hz, hsz, hb⟩ := he
  rcases hown.2 with ⟨rfl, _⟩ | ⟨g, cap, cur, rfl, _, _, hnc, _⟩
  · simp [Builtin.append_, run_underlying ht, sizeOf, typeInfo, hi, Builtin.lenOf, Builtin.firstCells]
  · simp [Builtin.append_, run_underlying ht, sizeOf, typeInfo, hi, Builtin.lenOf, Builtin.firstCells, hnc, storeCells]
theorem run_push {t ty e : TypeId} {k : IntKind} {bytes : Nat} (he : ElemInfo P t e k bytes) (hby : bytes ≤ 8) (base : Nat) (v : Value) (L M : List Nat) (hown : Own base e k w v L) (ao : Option Addr) (c : Nat) (hN : Ns k w ao c M) (hlen : L.length + M.length ≤ 8796093022207) (hbase : base ≤ w.heap.size) :
    ∃ v' w', (Builtin.append_ #[t, t] ty #[v, .slice ao M.length c]).run P w = .ok v' w' ∧ Own base e k w' v' (L ++ M) ∧ Below base w w' := by
  cases ao with
  | none =>
    have hM : M = [] := by
      rcases Nat.eq_zero_or_pos M.length with h | h
      · exact List.length_eq_zero_iff.1 h
      · obtain ⟨_, _, e, _⟩ := hN.2.2 h; cases e
    subst hM
    exact ⟨v, w, run_push_nil he base v L hown none c rfl, by rw [List.append_nil]; exact hown, Below.refl _ _⟩
  | some ad =>
    have hb : (L.length + M.length) * bytes ≤ 140737488355328 := by
      have : (L.length + M.length) * bytes ≤ (L.length + M.length) * 8 := Nat.mul_le_mul_left _ hby
      omega
    obtain ⟨ht, i, hi, hz, hsz, hbb⟩ := he
    have hcells : ∀ j u, (nums k M)[j]? = some u → w.cell? (ad.add j) = some u := by
      intro j u hu
      have hj : j < M.length := by
        rcases Nat.lt_or_ge j M.length with h | h
        · exact h
        · rw [List.getElem?_eq_none (by rw [nums_len]; exact h)] at hu; cases hu
      obtain ⟨b, off, ea, hc⟩ := hN.2.2 (by omega)
      injection ea with ea
      subst ea
      rw [nums_at k M j hj] at hu
      injection hu with hu
      subst hu
      have h6 := hc j hj
      by_cases h0 : j = 0
      · subst h0; simpa [Addr.add] using h6
      · simpa [Addr.add, h0] using h6
    obtain ⟨v', w', hrun, h2, h3, _, h5⟩ := run_append_own_at (P := P) w base t ty e i (.int k 0) 1 bytes ht hi hz hsz hbb rfl (by decide) v L.length (nums k L) hown ad M.length c (nums k M) (by rw [nums_len, Nat.mul_one]) hcells (by intro u hu; unfold nums at hu; obtain ⟨d, _, rfl⟩ := List.mem_map.1 hu; rfl) (by unfold maxLen; omega) hb hbase
    refine ⟨v', w', hrun, ?_, ?_⟩
    · unfold Own
      rw [List.length_append]
      have e2 : nums k (L ++ M) = nums k L ++ nums k M := by unfold nums; rw [List.map_append]
      rw [e2]; exact h2
    · exact ⟨h3.os, h3.tape, h3.output, h3.size, fun b hbk => h3.block b (by omega) (fun e => by have := (hown.lt b e.symm).1; omega)⟩
theorem wpList_pushall {ops : Array Oper} {rest : List Oper} {o : Oper} {a : Act} {Q : Exit → Act → World → Prop} {t e : TypeId} {k : IntKind} {bytes : Nat} (he : ElemInfo P t e k bytes) (hby : bytes ≤ 8) (hgd : o.guard = none) (s x : Operand)
    (ho : o.op = .call { callee := .builtin .append, args := #[s, x], argTypes := #[t, t] })
    (base : Nat) (L M : List Nat) (v : Value) (hs : a.eval s = v) (hown : Own base e k w v L) (ao : Option Addr) (c n : Nat) (hx : a.eval x = .slice ao n c) (hn : n = M.length) (hN : Ns k w ao c M) (hlen : L.length + M.length ≤ 8796093022207) (hbase : base ≤ w.heap.size)
    (h : ∀ v' w', Own base e k w' v' (L ++ M) → Below base w w' → wpList P ops Q rest (a.put o.dst v') w') : wpList P ops Q (o :: rest) a w := by
  refine wpList_plain hgd fun K hK' => ?_
  subst hn
  obtain ⟨v', w', hrun, h2, h3⟩ := run_push (P := P) (ty := o.type) he hby base v L M hown ao c hN hlen hbase
  unfold Oper.wp execOp
  simp only [ho, resolve, invoke, builtin, Sem.run_bind, Sem.run_pure, Result.andThen_ok, List.map_toArray, List.map_cons, List.map_nil, hs, hx, hrun]
  exact hK' _ _ (h v' w' h2 h3)
end
/-- block g is a variable of type Z that holds x; its digits do not lie in block f -/
def RV (tz ti : TypeId) (f : Nat) (w : World) (g : Nat) (x : Int) : Prop :=
  ∃ ao cap, ZL tz w g (zneg x) (.slice ao (zl x).length cap) ∧ Nz ti w ao cap (zl x) ∧ ∀ p, ao = some p → p.block ≠ f
theorem RV.below {tz ti : TypeId} {f : Nat} {w w' : World} {g : Nat} {x : Int} (h : RV tz ti f w g x) (hb : Below w.heap.size w w') : RV tz ti f w' g x := by
  obtain ⟨ao, cap, h1, h2, h3⟩ := h
  exact ⟨ao, cap, h1.below hb, h2.below hb, h3⟩
theorem RV.drew {tz ti : TypeId} {f : Nat} {w : World} {g : Nat} {x : Int} (h : RV tz ti f w g x) : RV tz ti f w.drew g x := h.below (Below.drew (Below.refl _ _))
theorem RV.alloc {tz ti : TypeId} {f : Nat} {w : World} {g : Nat} {x : Int} (h : RV tz ti f w g x) (o : Obj) : RV tz ti f (w.alloc o) g x := h.below (below_alloc _ _)
theorem RV.lt {tz ti : TypeId} {f : Nat} {w : World} {g : Nat} {x : Int} (h : RV tz ti f w g x) : g < w.heap.size := by obtain ⟨_, _, h1, _⟩ := h; exact h1.lt
theorem RV.set2 {tz ti : TypeId} {f : Nat} {w : World} {g b : Nat} {x : Int} (h : RV tz ti f w g x) (hs : ElemIs w b tz) (hne : tz ≠ ti) (hgb : g ≠ b) (u v : Value) : RV tz ti f ((w.setCell ⟨b, 0, none⟩ u).setCell ⟨b, 1, none⟩ v) g x := by
  obtain ⟨ao, cap, h1, h2, h3⟩ := h
  exact ⟨ao, cap, (h1.far _ _ hgb).far _ _ hgb, (h2.setCell hs hne 0 u).setCell (hs.setCell _ _) hne 1 v, h3⟩
/-- a value stored into a variable -/
theorem RV.store {tz ti : TypeId} {f : Nat} {w : World} {g : Nat} {n : Bool} {v : Value} {y : Int} {ao : Option Addr} {cap : Nat} (h : ZL tz w g n v) (hN : Nz ti w ao cap (zl y)) (hne : tz ≠ ti) (hf : ∀ p, ao = some p → p.block ≠ f) :
    RV tz ti f ((w.setCell ⟨g, 0, none⟩ (.bool (zneg y))).setCell ⟨g, 1, none⟩ (.slice ao (zl y).length cap)) g y :=
  ⟨ao, cap, (h.set0 _).set1 _, (hN.setCell h.2.2.2.2 hne 0 _).setCell (h.2.2.2.2.setCell _ _) hne 1 _, hf⟩
/-- a variable just made -/
theorem RV.made {tz ti : TypeId} {f : Nat} {w : World} {g : Nat} {y : Int} {ao : Option Addr} {cap : Nat} (hg : g = w.heap.size) (hN : Nz ti w ao cap (zl y)) (hf : ∀ p, ao = some p → p.block ≠ f) :
    RV tz ti f (w.alloc (.cells #[.bool (zneg y), .slice ao (zl y).length cap] tz)) g y :=
  ⟨ao, cap, ZL.made hg, hN.below (below_alloc _ _), hf⟩
/-- variables that stay as they are -/
def KV (tz : TypeId) (w : World) (l : List (Nat × Bool × Value)) : Prop := ∀ e ∈ l, ZL tz w e.1 e.2.1 e.2.2
theorem KV.below {tz : TypeId} {w w' : World} {l : List (Nat × Bool × Value)} (h : KV tz w l) (hb : Below w.heap.size w w') : KV tz w' l := fun e he => (h e he).below hb
theorem KV.drew {tz : TypeId} {w : World} {l : List (Nat × Bool × Value)} (h : KV tz w l) : KV tz w.drew l := h
theorem KV.far {tz : TypeId} {w : World} {l : List (Nat × Bool × Value)} (h : KV tz w l) (a : Addr) (u : Value) (hne : ∀ e ∈ l, e.1 ≠ a.block) : KV tz (w.setCell a u) l := fun e he => (h e he).far a u (hne e he)
theorem KV.far2 {tz : TypeId} {w : World} {l : List (Nat × Bool × Value)} (h : KV tz w l) {b : Nat} (hne : ∀ e ∈ l, e.1 ≠ b) (u v : Value) : KV tz ((w.setCell ⟨b, 0, none⟩ u).setCell ⟨b, 1, none⟩ v) l := (h.far _ _ hne).far _ _ hne
theorem Own.far {base : Nat} {e : TypeId} {k : IntKind} {w : World} {g n cap : Nat} {L : List Nat} (h : Own base e k w (.slice (some ⟨g, 0, none⟩) n cap) L) (a : Addr) (hne : a.block ≠ g) (u : Value) : Own base e k (w.setCell a u) (.slice (some ⟨g, 0, none⟩) n cap) L := by
  obtain ⟨h1, h2⟩ := h
  refine ⟨h1, ?_⟩
  rcases h2 with hn | ⟨g', cap', cur, hv, hg, hh, rest⟩
  · exact .inl hn
  · refine .inr ⟨g', cap', cur, hv, hg, ?_, rest⟩
    injection hv with h3 _ _
    injection h3 with h3
    have h4 : g = g' := by simpa using congrArg Addr.block h3
    subst h4
    rw [Below.heap_setCell _ _ _ _ (fun e => hne e.symm)]; exact hh
end Go.Ulp

namespace Go.Ulp
open Go.RowKit
theorem Own.mono {base base' : Nat} {e : TypeId} {k : IntKind} {w : World} {v : Value} {L : List Nat} (h : Own base e k w v L) (hb : base' ≤ base) : Own base' e k w v L := by
  obtain ⟨h1, h2⟩ := h
  refine ⟨h1, ?_⟩
  rcases h2 with hn | ⟨g, cap, cur, hv, hg, rest⟩
  · exact .inl hn
  · exact .inr ⟨g, cap, cur, hv, Nat.le_trans hb hg, rest⟩
end Go.Ulp
namespace Go.Proofs.YtpgmchpdpgahfaaGreatDoor
open Go.RowKit Go.Ulp
set_option linter.unusedVariables false
set_option linter.unusedSimpArgs false
set_option maxHeartbeats 1000000
set_option maxRecDepth 100000
end Go.Proofs.YtpgmchpdpgahfaaGreatDoor
