/- nat: shifts to the right. -/
import Derived.Test.YteaakbeemhmciaaDoorNat6
namespace Go.Ulp
/-- is something lost, divided by 2^n? -/
def lostB (V n : Nat) : Bool := decide (V % 2 ^ n ≠ 0)
theorem b_pow (q : Nat) : 4294967296 ^ q = 2 ^ (32 * q) := by rw [Nat.pow_mul]
theorem lost_lo (V x k q s : Nat) (hk : k < q) (hV : V < 4294967296 ^ k) (hx : x < 4294967296) : lostB (V + 4294967296 ^ k * x) (32 * q + s) = (lostB V (32 * q + s) || x != 0) := by
  have h1 : V + 4294967296 ^ k * x < 2 ^ (32 * q + s) := by
    have a1 : V + 4294967296 ^ k * x < 4294967296 ^ (k + 1) := by
      rw [Nat.pow_succ]
      have := Nat.mul_le_mul_left (4294967296 ^ k) (show x + 1 ≤ 4294967296 by omega)
      rw [Nat.mul_add] at this; omega
    refine Nat.lt_of_lt_of_le a1 ?_
    rw [b_pow]; exact Nat.pow_le_pow_right (by omega) (by omega)
  have h2 : V < 2 ^ (32 * q + s) := by omega
  unfold lostB
  rw [Nat.mod_eq_of_lt h1, Nat.mod_eq_of_lt h2, Bool.eq_iff_iff]
  have hp : 0 < 4294967296 ^ k := Nat.pow_pos (by omega)
  simp only [decide_eq_true_eq, Bool.or_eq_true, bne_iff_ne]
  constructor
  · intro h; by_cases hx0 : x = 0
    · left; subst hx0; simpa using h
    · right; exact hx0
  · rintro (h | h)
    · omega
    · have := Nat.mul_pos hp (show 0 < x by omega); omega
theorem lost_at (V x q s : Nat) (hV : V < 4294967296 ^ q) : lostB (V + 4294967296 ^ q * x) (32 * q + s) = (lostB V (32 * q + s) || (x % 2 ^ s != 0)) := by
  have hp : 0 < 4294967296 ^ q := Nat.pow_pos (by omega)
  have e : 2 ^ (32 * q + s) = 4294967296 ^ q * 2 ^ s := by rw [Nat.pow_add, ← b_pow]
  have h1 : (V + 4294967296 ^ q * x) % 2 ^ (32 * q + s) = V + 4294967296 ^ q * (x % 2 ^ s) := by
    rw [e, Nat.mod_mul, Nat.add_mul_mod_self_left, Nat.mod_eq_of_lt hV, Nat.add_mul_div_left _ _ hp, Nat.div_eq_of_lt hV, Nat.zero_add]
  have h2 : V % 2 ^ (32 * q + s) = V := Nat.mod_eq_of_lt (by rw [e]; exact Nat.lt_of_lt_of_le hV (Nat.le_mul_of_pos_right _ (Nat.two_pow_pos s)))
  unfold lostB
  rw [h1, h2, Bool.eq_iff_iff]
  simp only [decide_eq_true_eq, Bool.or_eq_true, bne_iff_ne]
  constructor
  · intro h; by_cases hx0 : x % 2 ^ s = 0
    · left; rw [hx0] at h; simpa using h
    · right; exact hx0
  · rintro (h | h)
    · omega
    · have := Nat.mul_pos hp (show 0 < x % 2 ^ s by omega); omega
theorem lost_hi (V x k q s : Nat) (hk : q < k) (hs : s < 32) : lostB (V + 4294967296 ^ k * x) (32 * q + s) = lostB V (32 * q + s) := by
  have e : 4294967296 ^ k = 2 ^ (32 * q + s) * 2 ^ (32 * k - (32 * q + s)) := by rw [b_pow, ← Nat.pow_add]; congr 1; omega
  unfold lostB
  rw [e, Nat.mul_assoc, Nat.add_mul_mod_self_left]
theorem right_step (x D y s : Nat) (hs : s < 32) (hy : y = D % 4294967296) (hx : x < 4294967296) : (x + 4294967296 * D) / 2 ^ s = (x + 4294967296 * y) / 2 ^ s % 4294967296 + 4294967296 * (D / 2 ^ s) := by
  have hp : 0 < 2 ^ s := Nat.two_pow_pos s
  have e32 : 4294967296 = 2 ^ s * 2 ^ (32 - s) := by rw [← Nat.pow_add, show s + (32 - s) = 32 by omega]
  have h1 : (x + 4294967296 * D) / 2 ^ s / 4294967296 = D / 2 ^ s := by
    rw [Nat.div_div_eq_div_mul, Nat.mul_comm (2 ^ s), ← Nat.div_div_eq_div_mul, Nat.add_mul_div_left _ _ (by omega), Nat.div_eq_of_lt hx, Nat.zero_add]
  have h2 : (x + 4294967296 * D) / 2 ^ s % 4294967296 = (x + 4294967296 * y) / 2 ^ s % 4294967296 := by
    have e : x + 4294967296 * D = (x + 4294967296 * y) + 2 ^ s * (4294967296 * (2 ^ (32 - s) * (D / 4294967296))) := by
      have a1 := Nat.mod_add_div D 4294967296
      have a2 : 2 ^ s * (4294967296 * (2 ^ (32 - s) * (D / 4294967296))) = 4294967296 * (4294967296 * (D / 4294967296)) := by
        rw [← Nat.mul_assoc, Nat.mul_comm (2 ^ s), Nat.mul_assoc, ← Nat.mul_assoc (2 ^ s), ← e32]
      rw [a2, hy]; omega
    rw [e, Nat.add_mul_div_left _ _ hp, Nat.add_mul_mod_self_left]
  have := Nat.mod_add_div ((x + 4294967296 * D) / 2 ^ s) 4294967296
  rw [h1, h2] at this; exact this.symm
theorem and_mask_u32 (x s : Nat) (hs : s < 32) (hx : x < 4294967296) : bits .and .u32 (x : Int) (((2 ^ s - 1 : Nat)) : Int) = ((x % 2 ^ s : Nat) : Int) := by
  have hp : 2 ^ s ≤ 2 ^ 31 := Nat.pow_le_pow_right (by omega) (by omega)
  have h31 : (2 : Nat) ^ 31 = 2147483648 := by decide
  rw [u32_and_nat x (2 ^ s - 1) (by omega) (by omega), Nat.and_two_pow_sub_one_eq_mod]
theorem bne_cast (x : Nat) : ((x : Int) != 0) = (x != 0) := by rw [Bool.eq_iff_iff]; simp
theorem mask_bne (x s : Nat) (hs : s < 32) (hx : x < 4294967296) : (bits .and .u32 (x : Int) (((2 : Int) ^ s - 1) % 4294967296) != 0) = (x % 2 ^ s != 0) := by
  have hp : 2 ^ s ≤ 2 ^ 31 := Nat.pow_le_pow_right (by omega) (by omega)
  have hp0 : 0 < 2 ^ s := Nat.two_pow_pos s
  have h31 : (2 : Nat) ^ 31 = 2147483648 := by decide
  have e : ((2 : Int) ^ s - 1) % 4294967296 = ((2 ^ s - 1 : Nat) : Int) := by
    have : (2 : Int) ^ s = ((2 ^ s : Nat) : Int) := by simp
    rw [this]; omega
  rw [e, and_mask_u32 x s hs hx, bne_cast]
theorem right_zero (m n q s : Nat) (hn : n = 32 * q + s) (h : (limbs m).length ≤ q) : m / 2 ^ n = 0 := by
  have h1 : m < 4294967296 ^ q := (digs_len_le _ (by omega) _ _).1 h
  rw [b_pow] at h1
  exact Nat.div_eq_of_lt (Nat.lt_of_lt_of_le h1 (Nat.pow_le_pow_right (by omega) (by omega)))
theorem right_all (m n q s : Nat) (hn : n = 32 * q + s) (h : q ≤ (limbs m).length) : lval ((limbs m).drop q) / 2 ^ s = m / 2 ^ n := by
  have e : m = lval ((limbs m).take q) + 4294967296 ^ q * lval ((limbs m).drop q) := by
    have := val_take_drop 4294967296 (limbs m) q h; rw [show val 4294967296 (limbs m) = m from lval_limbs m] at this; exact this
  have hV : lval ((limbs m).take q) < 4294967296 ^ q := by have := lval_lt _ ((limbs_lim m).take q); rwa [List.length_take, Nat.min_eq_left (by omega)] at this
  rw [hn, Nat.pow_add, ← b_pow, ← Nat.div_div_eq_div_mul]
  conv => rhs; rw [e]
  rw [Nat.add_mul_div_left _ _ (Nat.pow_pos (by omega)), Nat.div_eq_of_lt hV, Nat.zero_add]
end Go.Ulp
namespace Go.Proofs.YteaakbeemhmciaaDoor
open Go.RowKit Go.Ulp
set_option linter.unusedVariables false
set_option linter.unusedSimpArgs false
set_option maxHeartbeats 800000
set_option maxRecDepth 100000
theorem right_any (a0 : Option Addr) (c0 : Nat) (m n : Nat) (w : World) (h0 : Ns .u32 w a0 c0 (limbs m)) (hm : (limbs m).length ≤ 4294967296) (hn : n ≤ 4294967296000) :
    Calls Tryd.prog 158 #[.slice a0 (limbs m).length c0, .int .i64 (n : Int)] w fun e w' => RetN2 w (m / 2 ^ n) (.bool (lostB m n)) e w' := by
  have lL := limbs_lim m
  obtain ⟨hL1, hL2, hL3⟩ := h0
  unfold maxLen at hL2
  obtain ⟨q, hq⟩ : ∃ q, q = n / 32 := ⟨_, rfl⟩
  obtain ⟨s, hs⟩ : ∃ s, s = n % 32 := ⟨_, rfl⟩
  have hnq : n = 32 * q + s := by omega
  have hs32 : s < 32 := by omega
  have e1 : (n : Int) / 32 = (q : Int) := by omega
  have e2 : (n : Int) % 32 = (s : Int) := by omega
  have HN := hid hnq
  clear hq hs hnq
  go_enter Tryd.func158, Tryd.ntmps158
  go_wp2_with fail
  go_loop [6, 7, 8, 14] (fun lo _ _ i => ∃ (k : Nat) (bb : Bool), k ≤ (limbs m).length ∧ i = .int .i64 k ∧ lo = .bool bb ∧ bb = lostB (lval ((limbs m).take k)) n) (fun _ _ _ i => (limbs m).length - (intOf i).toNat)
  case atStart => exact ⟨0, false, by omega, rfl, rfl, by simp [lval, val, lostB]⟩
  case round =>
    obtain ⟨k, bb, hk, rfl, rfl, hbb⟩ := hrel
    by_cases hlt : k < (limbs m).length
    · obtain ⟨b0, o0, rfl, hc0⟩ := hL3 (by omega)
      obtain ⟨x, hx⟩ : ∃ x, x = (limbs m).getD k 0 := ⟨_, rfl⟩
      have hx1 : x < 4294967296 := by rw [hx]; exact lL.getD (by omega) k
      have hcell : w.cell? ⟨b0, o0 + k, none⟩ = some (.int .u32 (x : Int)) := by
        rw [hc0 k hlt, hx]; rfl
      clear hc0 hL3
      have hV : lval ((limbs m).take k) < 4294967296 ^ k := by have := lval_lt _ (lL.take k); rwa [List.length_take, Nat.min_eq_left (by omega)] at this
      have hts : lval ((limbs m).take (k + 1)) = lval ((limbs m).take k) + 4294967296 ^ k * x := by rw [hx]; exact val_take_succ _ _ _ hlt
      have hnx : lostB (lval ((limbs m).take (k + 1))) n = if k < q then (bb || x != 0) else if k = q then (bb || x % 2 ^ s != 0) else bb := by
        rw [hts, hbb, HN.out]
        by_cases h1 : k < q
        · rw [if_pos h1]; exact lost_lo _ _ _ _ _ h1 hV hx1
        · rw [if_neg h1]
          by_cases h2 : k = q
          · rw [if_pos h2]; subst h2; exact lost_at _ _ _ _ hV
          · rw [if_neg h2]; exact lost_hi _ _ _ _ _ (by omega) hs32
      have E := and_mask_u32 x s hs32 hx1
      have HNX := hid hnx
      clear hbb hV hts hnx hx
      by_cases h1 : k < q
      · cases bb
        all_goals
          go_wp2_with fail
          go_round
          case rel => exact ⟨k + 1, _, by omega, by go_num, rfl, by rw [HNX.out, if_pos (by omega)]; first | rfl | rw [bne_cast]; rfl⟩
          case measure => simp [intOf]; omega
      · by_cases h2 : k = q
        · obtain rfl : k = q := h2
          cases bb
          all_goals
            go_wp2_with fail
            go_round
            case rel => exact ⟨k + 1, _, by omega, by go_num, rfl, by rw [HNX.out, if_neg (by omega), if_pos rfl]; first | rfl | rw [mask_bne x s hs32 hx1]; rfl⟩
            case measure => simp [intOf]; omega
        · go_wp2_with fail
          go_round
          case rel => exact ⟨k + 1, bb, by omega, by go_num, rfl, by rw [HNX.out, if_neg (by omega), if_neg (by omega)]⟩
          case measure => simp [intOf]; omega
    · have hke : k = (limbs m).length := by omega
      rw [hke, List.take_of_length_le (Nat.le_refl _), lval_limbs] at hbb
      have HBB := hid hbb
      clear hke hbb
      by_cases hq : (limbs m).length ≤ q
      · have HZ := hid (right_zero m n q s HN.out hq)
        go_wp2_with fail
        go_ret2
        rw [HZ.out]
        exact ⟨none, by rw [← HBB.out]; rfl, Ns.nil, Below.refl _ _⟩
      · have HA := hid (right_all m n q s HN.out (by omega))
        go_wp2_with fail
        go_loopw [9, 10, 11] (fun o i _ wr => ∃ (k : Nat) (Q : List Nat), q + k ≤ (limbs m).length ∧ i = .int .i64 ((q + k : Nat) : Int) ∧ Q.length = k ∧ Lim Q ∧ lval Q + 4294967296 ^ k * (lval ((limbs m).drop (q + k)) / 2 ^ s) = m / 2 ^ n ∧ Own w.heap.size 34 .u32 wr o Q ∧ Below w.heap.size w wr) (fun _ i _ _ => (limbs m).length - (intOf i).toNat)
        case atStart => exact ⟨0, [], by omega, rfl, rfl, AllLt.nil, by simp [lval, val]; exact HA.out, Own.nil, Below.refl _ _⟩
        case round =>
          obtain ⟨k2, Q, hk2, rfl, hQ, lQ, hv, hown, hb⟩ := hrel
          obtain ⟨i, hi⟩ : ∃ i, i = q + k2 := ⟨_, rfl⟩
          have hk3 : k2 ≤ i := by omega
          rw [← hi] at hk2 hv ⊢
          have HI := hid hi
          have HQ := hid hQ
          have HV := hid hv
          clear hQ hv hi
          by_cases hlt2 : i < (limbs m).length
          · obtain ⟨b0, o0, rfl, hc0⟩ := hL3 (by omega)
            obtain ⟨x, hx⟩ : ∃ x, x = (limbs m).getD i 0 := ⟨_, rfl⟩
            have hx1 : x < 4294967296 := by rw [hx]; exact lL.getD (by omega) i
            have hcell : wr.cell? ⟨b0, o0 + i, none⟩ = some (.int .u32 (x : Int)) := by
              have h1 := hc0 i hlt2
              have h2 := hb.cell (p := ⟨b0, o0 + i, none⟩) (World.block_lt_of_cell? w _ h1)
              rw [h2, h1, hx]; rfl
            have hdr : lval ((limbs m).drop i) = x + 4294967296 * lval ((limbs m).drop (i + 1)) := by rw [hx]; exact val_drop _ _ _ hlt2
            have HX := hid hx
            clear hx
            have HDR := hid hdr
            clear hdr
            by_cases hlt3 : i + 1 < (limbs m).length
            · obtain ⟨y, hy⟩ : ∃ y, y = (limbs m).getD (i + 1) 0 := ⟨_, rfl⟩
              have hy1 : y < 4294967296 := by rw [hy]; exact lL.getD (by omega) _
              have hcell1 : wr.cell? ⟨b0, o0 + (i + 1), none⟩ = some (.int .u32 (y : Int)) := by
                have h1 := hc0 (i + 1) hlt3
                have h2 := hb.cell (p := ⟨b0, o0 + (i + 1), none⟩) (World.block_lt_of_cell? w _ h1)
                rw [h2, h1, hy]; rfl
              have hyd : y = lval ((limbs m).drop (i + 1)) % 4294967296 := by
                have : lval ((limbs m).drop (i + 1)) = (limbs m).getD (i + 1) 0 + 4294967296 * lval ((limbs m).drop (i + 1 + 1)) := val_drop _ _ _ hlt3
                rw [this, ← hy]; omega
              clear hc0 hL3
              have HY := hid hyd
              clear hyd hy
              have E := or_join32' (y : Int) (x : Int) (by omega) (by omega) (by omega) (by omega)
              have hz1 : x + 4294967296 * y < 18446744073709551616 := by omega
              have ecast : ((x : Int) + (y : Int) * 4294967296) / (2 : Int) ^ s % 4294967296 = (((x + 4294967296 * y) / 2 ^ s % 4294967296 : Nat) : Int) := by
                have : (x : Int) + (y : Int) * 4294967296 = ((x + 4294967296 * y : Nat) : Int) := by omega
                rw [this]; simp
              have HE := hid ecast
              clear ecast
              go_wp2_with (at_builtin; refine wpList_push ei_u32 (by omega) rfl _ _ rfl w.heap.size Q ((x + 4294967296 * y) / 2 ^ s % 4294967296) _ rfl (Own.alloc hown _) ⟨wr.heap.size, 0, none⟩ rfl (cell_push _ _ _ _ _ HE.out) (by rw [HQ.out]; omega) (by simp; have := hb.size; omega) ?_; intro v1 w1 hown1 hb1)
              go_roundw
              case rel => exact ⟨k2 + 1, Q ++ [(x + 4294967296 * y) / 2 ^ s % 4294967296], by have := HI.out; omega, by have := HI.out; go_num, by rw [List.length_append, HQ.out]; rfl, AllLt.append.2 ⟨lQ, AllLt.cons.2 ⟨Nat.mod_lt _ (by omega), AllLt.nil⟩⟩, by
                  have h1 := right_step x (lval ((limbs m).drop (i + 1))) y s hs32 HY.out hx1
                  have h2 := HV.out
                  rw [HDR.out, h1] at h2
                  rw [show q + (k2 + 1) = i + 1 by have := HI.out; omega]
                  unfold lval at *
                  rw [val_snoc, HQ.out, ← h2, Nat.pow_succ, Nat.mul_add, Nat.mul_assoc]; omega, hown1, (hb.trans ((below_alloc wr _).mono hb.size)).trans hb1⟩
              case measure => simp [intOf]; omega
            · have hyd : 0 = lval ((limbs m).drop (i + 1)) % 4294967296 := by
                rw [List.drop_eq_nil_iff.2 (by omega)]; simp [lval, val]
              clear hc0 hL3
              have HY := hid hyd
              clear hyd
              have ecast : (x : Int) / (2 : Int) ^ s % 4294967296 = ((x / 2 ^ s % 4294967296 : Nat) : Int) := by simp
              have HE := hid ecast
              clear ecast
              go_wp2_with (at_builtin; refine wpList_push ei_u32 (by omega) rfl _ _ rfl w.heap.size Q (x / 2 ^ s % 4294967296) _ rfl (Own.alloc hown _) ⟨wr.heap.size, 0, none⟩ rfl (cell_push _ _ _ _ _ HE.out) (by rw [HQ.out]; omega) (by simp; have := hb.size; omega) ?_; intro v1 w1 hown1 hb1)
              go_roundw
              case rel => exact ⟨k2 + 1, Q ++ [x / 2 ^ s % 4294967296], by have := HI.out; omega, by have := HI.out; go_num, by rw [List.length_append, HQ.out]; rfl, AllLt.append.2 ⟨lQ, AllLt.cons.2 ⟨Nat.mod_lt _ (by omega), AllLt.nil⟩⟩, by
                  have h1 := right_step x (lval ((limbs m).drop (i + 1))) 0 s hs32 HY.out hx1
                  have h2 := HV.out
                  simp only [Nat.mul_zero, Nat.add_zero] at h1
                  rw [HDR.out, h1] at h2
                  rw [show q + (k2 + 1) = i + 1 by have := HI.out; omega]
                  unfold lval at *
                  rw [val_snoc, HQ.out, ← h2, Nat.pow_succ, Nat.mul_add, Nat.mul_assoc]; omega, hown1, (hb.trans ((below_alloc wr _).mono hb.size)).trans hb1⟩
              case measure => simp [intOf]; omega
          · have hfin : lval Q = m / 2 ^ n := by
              have := HV.out
              rw [List.drop_eq_nil_iff.2 (by omega)] at this
              simpa [lval, val] using this
            have HF := hid hfin
            clear hfin
            obtain ⟨ao, cap, rfl, hN⟩ := hown.ns
            go_wp2_with fail
            refine (norm_any _ _ _ _ hN lQ).mono ?_
            rintro e w' ⟨rfl, rfl⟩
            have hN' := hN.norm lQ
            rw [HF.out] at hN' ⊢
            go_wp2_with fail
            go_ret2
            exact ⟨_, by rw [← HBB.out]; rfl, hN', hb⟩
end Go.Proofs.YteaakbeemhmciaaDoor
