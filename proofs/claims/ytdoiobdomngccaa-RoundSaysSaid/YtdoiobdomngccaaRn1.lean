/- Rounding, the program's side: Up, the length in bits, cut. -/
import Derived.Test.YtdoiobdomngccaaRd
import Derived.Test.YtdoiobdomngccaaNat7
import Derived.Test.YtdoiobdomngccaaNat10
import Derived.Test.YtdoiobdomngccaaNat13b
namespace Go.Proofs.Ytdoiobdomngccaa
open Go.RowKit Go.Ulp
set_option linter.unusedVariables false
set_option linter.unusedSimpArgs false
set_option maxHeartbeats 1000000
set_option maxRecDepth 100000
theorem up_any (neg odd : Bool) (half mode : Int) (w : World) :
    Calls Try.prog 149 #[.bool neg, .bool odd, .int .i64 half, .int .i64 mode] w fun e w' => e = .returned (.bool (upN neg odd half mode)) ∧ w = w' := by
  by_cases h1 : mode = 1
  · subst h1
    go_enter Try.func149, Try.ntmps149
    go_wp2_with fail
    go_ret
    exact ⟨ret_bool (by simp [upN]), rfl⟩
  by_cases h2 : mode = 2
  · subst h2
    go_enter Try.func149, Try.ntmps149
    go_wp2_with fail
    go_ret
    exact ⟨ret_bool (by simp [upN]), rfl⟩
  by_cases h3 : mode = 3
  · subst h3
    go_enter Try.func149, Try.ntmps149
    go_wp2_with fail
    go_ret
    exact ⟨ret_bool (by simp [upN]), rfl⟩
  by_cases h4 : mode = 4
  · subst h4
    go_enter Try.func149, Try.ntmps149
    go_wp2_with fail
    go_ret
    exact ⟨ret_bool (by simp [upN]), rfl⟩
  have b1 : (mode == 1) = false := beq_eq_false_iff_ne.2 h1
  have b2 : (mode == 2) = false := beq_eq_false_iff_ne.2 h2
  have b3 : (mode == 3) = false := beq_eq_false_iff_ne.2 h3
  have b4 : (mode == 4) = false := beq_eq_false_iff_ne.2 h4
  have hu : upN neg odd half mode = decide (0 < half ∨ (half = 0 ∧ odd = true)) := by unfold upN; rw [if_neg h1, if_neg h2, if_neg h3, if_neg h4]
  rw [hu]
  clear hu h1 h2 h3 h4
  rcases Int.lt_trichotomy half 0 with h | h | h
  · have c1 : decide (0 < half) = false := decide_eq_false (by omega)
    have c2 : (half == 0) = false := beq_eq_false_iff_ne.2 (by omega)
    have hr : decide (0 < half ∨ (half = 0 ∧ odd = true)) = false := decide_eq_false (fun h2 => by omega)
    rw [hr]
    clear hr
    go_enter Try.func149, Try.ntmps149
    go_wp2_with fail
    go_ret
    exact ⟨rfl, rfl⟩
  · subst h
    have hr : decide ((0 : Int) < 0 ∨ ((0 : Int) = 0 ∧ odd = true)) = odd := by cases odd <;> rfl
    rw [hr]
    clear hr
    go_enter Try.func149, Try.ntmps149
    go_wp2_with fail
    go_ret
    exact ⟨rfl, rfl⟩
  · have c1 : decide (0 < half) = true := decide_eq_true h
    have hr : decide (0 < half ∨ (half = 0 ∧ odd = true)) = true := decide_eq_true (.inl h)
    rw [hr]
    clear hr
    go_enter Try.func149, Try.ntmps149
    go_wp2_with fail
    go_ret
    exact ⟨rfl, rfl⟩
theorem natLen_any (a0 : Option Addr) (c0 m : Nat) (w : World) (h0 : Ns .u32 w a0 c0 (limbs m)) (hm : (limbs m).length ≤ 1000000) :
    Calls Try.prog 134 #[.slice a0 (limbs m).length c0] w fun e w' => e = .returned (.int .i64 (bl m : Int)) ∧ w = w' := by
  by_cases hz : m = 0
  · subst hz
    rw [limbs_zero]
    go_enter Try.func134, Try.ntmps134
    go_wp2_with fail
    go_ret
    exact ⟨rfl, rfl⟩
  have hpos : 0 < (limbs m).length := (digs_len_pos 4294967296 (by omega) m).2 (by omega)
  obtain ⟨s0, hs⟩ : ∃ s0, (limbs m).length = s0 + 1 := ⟨(limbs m).length - 1, by omega⟩
  obtain ⟨top, htop⟩ : ∃ top, top = (limbs m).getD s0 0 := ⟨_, rfl⟩
  have lN := limbs_lim m
  have btop : top < 4294967296 := by rw [htop]; exact lN.getD (by omega) _
  have ptop : 0 < top := by
    have := (trim_iff (limbs m)).1 (limbs_trim m)
    rw [hs] at this
    rcases this with h | h
    · omega
    · rw [htop]; exact Nat.pos_of_ne_zero h
  obtain ⟨b1, o1, rfl, hc1⟩ := h0.2.2 (by omega)
  have k1 : w.cell? ⟨b1, o1 + s0, none⟩ = some (.int .u32 (top : Int)) := by rw [hc1 s0 (by omega), htop]; rfl
  have vn : m = lval ((limbs m).take s0) + 4294967296 ^ s0 * top := by
    have := lval_take_succ (limbs m) s0 (by omega)
    rw [List.take_of_length_le (by omega), lval_limbs, ← htop] at this
    exact this
  have hb : bl top ≤ 32 := (bl_le top 32).2 (by simpa using btop)
  have LZ := hid (show ∀ w, Calls Try.prog 142 #[.int .u32 (top : Int)] w fun e w' => e = .returned (.int .i64 (32 - (bl top : Int))) ∧ w = w' from fun w => (Try.bits_LeadingZeros32 (top : Int) w (by omega) (by omega)).mono (by
    rintro e w' ⟨rfl, rfl⟩
    refine ⟨ret_int ?_, rfl⟩
    rw [show ((top : Int)).toNat = top by omega, bitLen_bl2 _ (by omega)]))
  have hbl : (bl m : Int) = 32 * ((s0 : Int) + 1) - (32 - (bl top : Int)) := by
    have e1 : (4294967296 : Nat) ^ s0 = 2 ^ (32 * s0) := by rw [Nat.pow_mul]
    have h1 := lval_take_lt (limbs m) s0 lN (by omega)
    rw [e1] at vn h1
    have := bl_top _ top (32 * s0) h1 ptop
    rw [← vn] at this
    omega
  have HB := hid hbl
  have hcap := h0.1
  have hcap2 := h0.2.1
  unfold maxLen at hcap2
  obtain ⟨bt, hbt⟩ : ∃ bt, bt = bl top := ⟨_, rfl⟩
  rw [← hbt] at LZ HB hb
  rw [hs] at hcap hm ⊢
  clear h0 hc1 htop vn hs hpos lN hbl hbt
  go_enter Try.func134, Try.ntmps134
  go_wp2_with (go_at_call 142; (with_reducible refine (LZ.out _).mono ?_); rintro e w1 ⟨rfl, rfl⟩)
  go_ret
  exact ⟨ret_int (by rw [HB.out]; try omega), rfl⟩
end Go.Proofs.Ytdoiobdomngccaa
namespace Go.Ulp
open Go.RowKit
theorem limbs_odd (q : Nat) (h : 0 < (limbs q).length) : ((limbs q).getD 0 0) % 2 = q % 2 := by
  have h1 := val_drop 4294967296 (limbs q) 0 h
  rw [List.drop_zero] at h1
  have h2 := lval_limbs q
  unfold lval at h2
  omega
theorem cut_pos (neg : Bool) (M j : Nat) (mode : Int) : cutN neg M ((j + 1 : Nat) : Int) mode = if M % 2 ^ (j + 1) ≠ 0 ∧ upN neg (decide (((M / 2 ^ (j + 1) : Nat) : Int) % 2 = 1)) (cmpI ((M % 2 ^ (j + 1) : Nat) : Int) ((2 ^ j : Nat) : Int)) mode = true then M / 2 ^ (j + 1) + 1 else M / 2 ^ (j + 1) := by
  unfold cutN
  rw [if_neg (by omega), Int.toNat_natCast]; rfl
theorem cutC_pos (M j : Nat) : cutC M ((j + 1 : Nat) : Int) = lostB M (j + 1) := by
  unfold cutC lostB
  rw [if_neg (by omega), Int.toNat_natCast]
theorem cut_neg (neg : Bool) (M n : Nat) (mode : Int) : cutN neg M (-(n : Int)) mode = M * 2 ^ n ∧ cutC M (-(n : Int)) = false := by
  unfold cutN cutC
  rw [if_pos (by omega), if_pos (by omega), show (-(-(n : Int))).toNat = n by omega]
  exact ⟨rfl, rfl⟩
end Go.Ulp
namespace Go.Proofs.Ytdoiobdomngccaa
open Go.RowKit Go.Ulp
set_option linter.unusedVariables false
set_option linter.unusedSimpArgs false
set_option maxHeartbeats 1000000
set_option maxRecDepth 100000
theorem cut_left (neg : Bool) (a0 : Option Addr) (c0 m n : Nat) (mode : Int) (w : World) (h0 : Ns .u32 w a0 c0 (limbs m)) (hm : (limbs m).length ≤ 1000000) (hn : n ≤ 1000000) :
    Calls Try.prog 135 #[.bool neg, .slice a0 (limbs m).length c0, .int .i64 (-(n : Int)), .int .i64 mode] w fun e w' => RetN2 w (m * 2 ^ n) (.bool false) e w' := by
  have H := hid h0
  clear h0
  go_enter Try.func135, Try.ntmps135
  go_wp2_with (go_at_call 136; go_loud (with_reducible refine (leftN_any _ _ m n _ H.out (by omega) (by omega)).mono ?_); rintro e w1 ⟨a1, rfl, hN1, hb1⟩)
  go_ret2
  exact ⟨_, rfl, hN1, hb1⟩
theorem cut_right (neg : Bool) (a0 : Option Addr) (c0 m j : Nat) (mode : Int) (w : World) (h0 : Ns .u32 w a0 c0 (limbs m)) (hm : (limbs m).length ≤ 1000000) (hj : j ≤ 1000000) :
    Calls Try.prog 135 #[.bool neg, .slice a0 (limbs m).length c0, .int .i64 ((j : Int) + 1), .int .i64 mode] w fun e w' => RetN2 w (cutN neg m ((j + 1 : Nat) : Int) mode) (.bool (cutC m ((j + 1 : Nat) : Int))) e w' := by
  have H := hid h0
  clear h0
  rw [cut_pos, cutC_pos]
  obtain ⟨q, hq⟩ : ∃ q, q = m / 2 ^ (j + 1) := ⟨_, rfl⟩
  have RR := hid (show Calls Try.prog 144 #[.slice a0 (limbs m).length c0, .int .i64 ((j : Int) + 1)] w fun e w' => RetN2 w (m / 2 ^ (j + 1)) (.bool (lostB m (j + 1))) e w' from right_any a0 c0 m (j + 1) w H.out (by omega) (by omega))
  rw [← hq] at RR ⊢
  have hqm : q ≤ m := by rw [hq]; exact Nat.div_le_self _ _
  have hql : (limbs q).length ≤ (limbs m).length := limbs_len_mono hqm
  have hle : q * 2 ^ (j + 1) ≤ m := by rw [hq]; exact Nat.div_mul_le_self _ _
  have hml : (limbs (q * 2 ^ (j + 1))).length ≤ (limbs m).length := limbs_len_mono hle
  have hrest : m - q * 2 ^ (j + 1) = m % 2 ^ (j + 1) := by
    rw [hq]; have := Nat.div_add_mod m (2 ^ (j + 1)); rw [Nat.mul_comm] at this; omega
  have hj1 : 0 < ((j + 1 : Nat) : Int) := by omega
  by_cases hl : lostB m (j + 1) = false
  · have hz : ¬ m % 2 ^ (j + 1) ≠ 0 := by unfold lostB at hl; simpa using hl
    rw [if_neg (fun h => hz h.1)]
    rw [hl] at RR ⊢
    clear hq hqm hql hle hml hrest hz hl
    go_enter Try.func135, Try.ntmps135
    go_wp2_with (go_at_call 144; (with_reducible refine RR.out.mono ?_); rintro e w1 ⟨a1, rfl, hN1, hb1⟩)
    go_ret2
    exact ⟨_, rfl, hN1, hb1⟩
  · have hl1 : lostB m (j + 1) = true := by simpa using hl
    have hz : m % 2 ^ (j + 1) ≠ 0 := by unfold lostB at hl1; simpa using hl1
    rw [hl1] at RR ⊢
    obtain ⟨rest, hrs⟩ : ∃ r, r = m % 2 ^ (j + 1) := ⟨_, rfl⟩
    rw [← hrs] at hz hrest ⊢
    have hrl : (limbs rest).length ≤ (limbs m).length := limbs_len_mono (by rw [hrs]; exact Nat.mod_le _ _)
    obtain ⟨half, hhalf⟩ : ∃ x, x = cmpI (rest : Int) ((2 ^ j : Nat) : Int) := ⟨_, rfl⟩
    obtain ⟨up, hup⟩ : ∃ x, x = upN neg (decide ((q : Int) % 2 = 1)) half mode := ⟨_, rfl⟩
    have UP := hid (show ∀ od w, od = decide ((q : Int) % 2 = 1) → Calls Try.prog 149 #[.bool neg, .bool od, .int .i64 half, .int .i64 mode] w fun e w' => e = .returned (.bool up) ∧ w = w' from fun od w h => by subst h; rw [hup]; exact up_any _ _ _ _ w)
    have CM := hid (show ∀ a b c d w, Ns .u32 w a c (limbs rest) → Ns .u32 w b d (limbs (2 ^ j)) → Calls Try.prog 117 #[.slice a (limbs rest).length c, .slice b (limbs (2 ^ j)).length d] w fun e w' => e = .returned (.int .i64 half) ∧ ∃ nq, w' = w.drewN nq from fun a b c d w k0 k1 => by
      have := compare_any a b c d rest (2 ^ j) w k0 k1
      rw [← hhalf] at this
      exact this)
    have MI := hid (show ∀ a b c d w, Ns .u32 w a c (limbs m) → Ns .u32 w b d (limbs (q * 2 ^ (j + 1))) → Calls Try.prog 119 #[.slice a (limbs m).length c, .slice b (limbs (q * 2 ^ (j + 1))).length d] w fun e w' => RetN w rest e w' from fun a b c d w k0 k1 => by
      have := minus_any a b c d m (q * 2 ^ (j + 1)) w k0 k1 (by omega) hle
      rwa [hrest] at this)
    have LQ := hid (show ∀ a c w, Ns .u32 w a c (limbs q) → Calls Try.prog 136 #[.slice a (limbs q).length c, .int .i64 ((j : Int) + 1)] w fun e w' => RetN w (q * 2 ^ (j + 1)) e w' from fun a c w k => leftN_any a c q (j + 1) w k (by omega) (by omega))
    have hone : (limbs 1).length ≤ 4294967296 := by
      have : (limbs 1).length ≤ 1 := (digs_len_le 4294967296 (by omega) 1 1).2 (by omega)
      omega
    have LO := hid (show ∀ a c w, Ns .u32 w a c (limbs 1) → Calls Try.prog 136 #[.slice a (limbs 1).length c, .int .i64 (j : Int)] w fun e w' => RetN w (2 ^ j) e w' from fun a c w k => by have := leftN_any a c 1 j w k hone (by omega); rwa [Nat.one_mul] at this)
    have PL := hid (show ∀ a b c d w, Ns .u32 w a c (limbs q) → Ns .u32 w b d (limbs 1) → Calls Try.prog 118 #[.slice a (limbs q).length c, .slice b (limbs 1).length d] w fun e w' => RetN w (q + 1) e w' from fun a b c d w k0 k1 => plus_any a b c d q 1 w k0 k1 (by omega) hone)
    have OF := hid (show ∀ w, Calls Try.prog 69 #[.int .u64 1] w fun e w' => RetN w 1 e w' from fun w => natOf_any 1 (by omega) w)
    have hodd : (decide ((q : Int) % 2 = 1)) = decide (q % 2 = 1) := by rw [decide_eq_decide]; omega
    have hjj : ((j + 1 : Nat) : Int) - 1 = (j : Int) := by omega
    have HRES := hid (show (if rest ≠ 0 ∧ upN neg (decide ((q : Int) % 2 = 1)) half mode = true then q + 1 else q) = if up = true then q + 1 else q by
      rw [← hup]; by_cases hu : up = true
      · rw [if_pos ⟨hz, hu⟩, if_pos hu]
      · rw [if_neg (fun h => hu h.2), if_neg hu])
    rw [← hhalf, HRES.out]
    have HOD := hid hodd
    clear hrs hup hhalf hrest hml hle hqm hq hl hl1 HRES hone hz hodd
    go_enter Try.func135, Try.ntmps135
    go_upto_region 8 with (first
      | (go_at_call 144; (with_reducible refine RR.out.mono ?_); rintro e w1 ⟨a1, rfl, hN1, hb1⟩)
      | (go_at_call 136; (first
          | ((with_reducible refine (LQ.out _ _ _ hN1).mono ?_); rintro e w2 ⟨a2, rfl, hN2, hb2⟩)
          | ((with_reducible refine (LO.out _ _ _ hN4).mono ?_); rintro e w5 ⟨a5, rfl, hN5, hb5⟩)))
      | (go_at_call 119; (with_reducible refine (MI.out _ _ _ _ _ (H.out.below (below_trans hb1 hb2)) hN2).mono ?_); rintro e w3 ⟨a3, rfl, hN3, hb3⟩)
      | (go_at_call 69; (with_reducible refine (OF.out _).mono ?_); rintro e w4 ⟨a4, rfl, hN4, hb4⟩)
      | (go_at_call 117; (with_reducible refine (CM.out _ _ _ _ _ ((hN3.below hb4).below hb5) hN5).mono ?_); rintro e w6 ⟨rfl, nq, rfl⟩))
    have y6 : Below w.heap.size w (w5.drewN nq) := below_trans hb1 (below_trans hb2 (below_trans hb3 (below_trans hb4 (below_trans hb5 (below_drewN (Below.refl _ _) nq)))))
    have n6 : Ns .u32 (w5.drewN nq) a1 (limbs q).length (limbs q) := hN1.below (below_trans hb2 (below_trans hb3 (below_trans hb4 (below_trans hb5 (below_drewN (Below.refl _ _) nq)))))
    clear hN1 hN2 hN3 hN4 hN5 hb2 hb3 hb4 hb5 RR CM MI LQ LO
    generalize w5.drewN nq = w6 at *
    have hcap2 := n6.2.1
    unfold maxLen at hcap2
    have N6 := hid n6
    by_cases hq0 : (limbs q).length = 0
    · have hqz : q = 0 := (limbs_nil q).1 (List.length_eq_zero_iff.1 hq0)
      have UP0 := hid (fun w => UP.out false w (by subst hqz; rfl))
      have N7 := N6
      rw [hq0] at N7 PL ⊢
      clear n6 hqz
      go_upto_if 55 with (go_at_call 149; (with_reducible refine (UP0.out _).mono ?_); rintro e w7 ⟨rfl, rfl⟩)
      cases up
      · go_wp2_with fail
        go_ret2
        have := N6.out
        rw [hq0] at this
        exact ⟨a1, by rw [hq0]; rfl, by rw [hq0]; exact this, y6⟩
      · go_wp2_with (first
          | (go_at_call 69; (with_reducible refine (OF.out _).mono ?_); rintro e w8 ⟨a8, rfl, hN8, hb8⟩)
          | (go_at_call 118; (with_reducible refine (PL.out _ _ _ _ _ (N7.out.below hb8) hN8).mono ?_); rintro e w9 ⟨a9, rfl, hN9, hb9⟩))
        go_ret2
        exact ⟨_, rfl, hN9, below_trans (below_trans y6 hb8) hb9⟩
    · obtain ⟨b1, o1, rfl, hc1⟩ := n6.2.2 (by omega)
      obtain ⟨x, hx⟩ : ∃ x, x = (limbs q).getD 0 0 := ⟨_, rfl⟩
      have k1 : w6.cell? ⟨b1, o1, none⟩ = some (.int .u32 (x : Int)) := by have := hc1 0 (by omega); rw [hx]; exact this
      have hxo : x % 2 = q % 2 := by rw [hx]; exact limbs_odd q (by omega)
      have hx2 : x < 4294967296 := by rw [hx]; exact (limbs_lim q).getD (by omega) 0
      have hpos : 0 < (limbs q).length := by omega
      have hx3 : (x : Int) % 2 = 0 ∨ (x : Int) % 2 = 1 := by omega
      have UP0 := hid (fun w => UP.out ((x : Int) % 2 == 1) w (by
        rw [Bool.eq_iff_iff, beq_iff_eq, decide_eq_true_eq]; omega))
      clear n6 hc1 hx hxo hq0
      go_upto_if 55 with (go_at_call 149; (with_reducible refine (UP0.out _).mono ?_); rintro e w7 ⟨rfl, rfl⟩)
      cases up
      · go_wp2_with fail
        go_ret2
        exact ⟨_, rfl, N6.out, y6⟩
      · go_wp2_with (first
          | (go_at_call 69; (with_reducible refine (OF.out _).mono ?_); rintro e w8 ⟨a8, rfl, hN8, hb8⟩)
          | (go_at_call 118; (with_reducible refine (PL.out _ _ _ _ _ (N6.out.below hb8) hN8).mono ?_); rintro e w9 ⟨a9, rfl, hN9, hb9⟩))
        go_ret2
        exact ⟨_, rfl, hN9, below_trans (below_trans y6 hb8) hb9⟩
theorem cut_any (neg : Bool) (a0 : Option Addr) (c0 m : Nat) (k mode : Int) (w : World) (h0 : Ns .u32 w a0 c0 (limbs m)) (hm : (limbs m).length ≤ 1000000) (hk : -1000000 ≤ k ∧ k ≤ 1000000) :
    Calls Try.prog 135 #[.bool neg, .slice a0 (limbs m).length c0, .int .i64 k, .int .i64 mode] w fun e w' => RetN2 w (cutN neg m k mode) (.bool (cutC m k)) e w' := by
  by_cases h : k ≤ 0
  · obtain ⟨n, rfl⟩ : ∃ n : Nat, k = -(n : Int) := ⟨(-k).toNat, by omega⟩
    rw [(cut_neg neg m n mode).1, (cut_neg neg m n mode).2]
    exact cut_left neg a0 c0 m n mode w h0 hm (by omega)
  · obtain ⟨j, rfl⟩ : ∃ j : Nat, k = ((j + 1 : Nat) : Int) := ⟨(k - 1).toNat, by omega⟩
    exact cut_right neg a0 c0 m j mode w h0 hm (by omega)
end Go.Proofs.Ytdoiobdomngccaa
