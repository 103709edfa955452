/- nat: shifts. -/
import Derived.Test.YteaakbeemhmciaaDoorNat5
namespace Go.Ulp
open Go.RowKit
theorem left_step {v c V x q k P y : Nat} (h : v + 4294967296 ^ (q + k) * c = V * P * 4294967296 ^ q) (hy : y = c + x * P) :
    v + 4294967296 ^ (q + k) * (y % 4294967296) + 4294967296 ^ (q + (k + 1)) * (y / 4294967296) = (V + 4294967296 ^ k * x) * P * 4294967296 ^ q := by
  have e1 := Nat.mod_add_div y 4294967296
  have e2 := congrArg (fun z => 4294967296 ^ (q + k) * z) e1
  simp only [Nat.mul_add] at e2
  have e3 : 4294967296 ^ (q + (k + 1)) * (y / 4294967296) = 4294967296 ^ (q + k) * (4294967296 * (y / 4294967296)) := by
    rw [show q + (k + 1) = (q + k) + 1 by omega, Nat.pow_succ, Nat.mul_assoc]
  have e4 : (V + 4294967296 ^ k * x) * P * 4294967296 ^ q = V * P * 4294967296 ^ q + 4294967296 ^ (q + k) * (x * P) := by
    rw [Nat.add_mul, Nat.add_mul, Nat.pow_add, Nat.mul_assoc (4294967296 ^ k), Nat.mul_comm (4294967296 ^ k), Nat.mul_assoc (x * P), Nat.mul_comm (x * P), Nat.mul_comm (4294967296 ^ q)]
  rw [e3, e4]; rw [hy, Nat.mul_add] at e2; rw [hy]; omega
theorem or_shl (c x s : Nat) (hs : s < 32) (hc : c < 2 ^ s) (hx : x < 4294967296) : bits .or .u64 (c : Int) (IntKind.u64.wrap ((x : Int) * 2 ^ s)) = ((c + x * 2 ^ s : Nat) : Int) ∧ c + x * 2 ^ s < 4294967296 * 2 ^ s ∧ c + x * 2 ^ s < 9223372036854775808 := by
  have hp : 2 ^ s ≤ 2 ^ 31 := Nat.pow_le_pow_right (by omega) (by omega)
  have h31 : (2 : Nat) ^ 31 = 2147483648 := by decide
  have hm : x * 2 ^ s ≤ 4294967295 * 2 ^ s := Nat.mul_le_mul_right _ (by omega)
  have ec : (x : Int) * 2 ^ s = ((x * 2 ^ s : Nat) : Int) := by simp
  have hb : c + x * 2 ^ s < 4294967296 * 2 ^ s := by omega
  refine ⟨?_, hb, by omega⟩
  rw [ec, IntWalk.u64_in _ ⟨by omega, by omega⟩, or_join_low _ _ s (by omega) (by omega) (by omega) (by omega) ?_ (by omega)]
  · omega
  · rw [← Int.natCast_emod, Nat.mul_mod_left]; rfl
/-- as RetN: and the limbs lie in memory that was made since -/
def RetNF (w : World) (n : Nat) (e : Ending) (w' : World) : Prop :=
  ∃ ao, e = .returned (.slice ao (limbs n).length (limbs n).length) ∧ Ns .u32 w' ao (limbs n).length (limbs n) ∧ Below w.heap.size w w' ∧ ∀ p, ao = some p → w.heap.size ≤ p.block
end Go.Ulp
namespace Go.Proofs.YteaakbeemhmciaaDoor
open Go.RowKit Go.Ulp
set_option linter.unusedVariables false
set_option linter.unusedSimpArgs false
set_option maxHeartbeats 800000
set_option maxRecDepth 100000

theorem left_fresh (a0 : Option Addr) (c0 : Nat) (m n : Nat) (w : World) (h0 : Ns .u32 w a0 c0 (limbs m)) (hm : (limbs m).length ≤ 4294967296) (hn : n ≤ 4294967296) (hpos : 0 < (limbs m).length) :
    Calls Tryd.prog 132 #[.slice a0 (limbs m).length c0, .int .i64 (n : Int)] w fun e w' => RetNF w (m * 2 ^ n) e w' := by
  have lL := limbs_lim m
  obtain ⟨hL1, hL2, hL3⟩ := h0
  unfold maxLen at hL2
  obtain ⟨q, hq⟩ : ∃ q, q = n / 32 := ⟨_, rfl⟩
  obtain ⟨s, hs⟩ : ∃ s, s = n % 32 := ⟨_, rfl⟩
  have hnq : n = 32 * q + s := by omega
  have hs32 : s < 32 := by omega
  have e1 : (n : Int) / 32 = (q : Int) := by omega
  have e2 : (n : Int) % 32 = (s : Int) := by omega
  have HN := hid hnq
  clear hq hs hnq
  go_enter Tryd.func132, Tryd.ntmps132
  go_wp2_with (at_make; refine wpList_makeLC ei_u32 (by omega) rfl _ _ rfl q (q + (limbs m).length + 1) _ _ _ _ rfl rfl (by omega) (by omega) (by omega) (by omega) ?_; intro w1 hown hbl)
  go_loopw [5, 6, 23] (fun o c i wr => ∃ (k cc : Nat) (Q : List Nat), k ≤ (limbs m).length ∧ i = .int .i64 k ∧ c = .int .u64 cc ∧ cc < 2 ^ s ∧ Q.length = q + k ∧ Lim Q ∧ lval Q + 4294967296 ^ (q + k) * cc = lval ((limbs m).take k) * 2 ^ s * 4294967296 ^ q ∧ Own w.heap.size 34 .u32 wr o Q ∧ Below w.heap.size w wr) (fun _ _ i _ => (limbs m).length - (intOf i).toNat)
  case atStart =>
    exact ⟨0, 0, _, by omega, rfl, rfl, Nat.two_pow_pos s, by simp, AllLt.replicate (by omega), by unfold lval; rw [val_replicate]; simp [val], hown, hbl⟩
  case round =>
    clear hown hbl
    obtain ⟨k, cc, Q, hk, rfl, rfl, hcc, hQ, lQ, hv, hown, hb⟩ := hrel
    have HQ := hid hQ
    have HV := hid hv
    clear hQ hv
    by_cases hlt : k < (limbs m).length
    · obtain ⟨b0, o0, rfl, hc0⟩ := hL3 (by omega)
      obtain ⟨x, hx⟩ : ∃ x, x = (limbs m).getD k 0 := ⟨_, rfl⟩
      have hx1 : x < 4294967296 := by rw [hx]; exact lL.getD (by omega) k
      have hcell : wr.cell? ⟨b0, o0 + k, none⟩ = some (.int .u32 (x : Int)) := by
        have h1 := hc0 k hlt
        have h2 := hb.cell (p := ⟨b0, o0 + k, none⟩) (World.block_lt_of_cell? w _ h1)
        rw [h2, h1, hx]; rfl
      clear hc0 hL3
      have HX := hid hx
      clear hx
      obtain ⟨E, hy2, hy3⟩ := or_shl cc x s hs32 hcc hx1
      obtain ⟨y, hy⟩ : ∃ y, y = cc + x * 2 ^ s := ⟨_, rfl⟩
      rw [← hy] at E hy2 hy3
      have hy4 : y / 4294967296 < 2 ^ s := Nat.div_lt_of_lt_mul hy2
      have HY := hid hy
      have HY4 := hid hy4
      clear hy hy2 hy4 hcc
      go_wp2_with (at_builtin; refine wpList_push ei_u32 (by omega) rfl _ _ rfl w.heap.size Q (y % 4294967296) _ rfl (Own.alloc hown _) ⟨wr.heap.size, 0, none⟩ rfl (cell_push _ _ _ _ _ (by omega)) (by rw [HQ.out]; omega) (by simp; have := hb.size; omega) ?_; intro v1 w1 hown1 hb1)
      go_roundw
      case rel => exact ⟨k + 1, y / 4294967296, Q ++ [y % 4294967296], by omega, by go_num, by go_num, HY4.out, by rw [List.length_append, HQ.out]; rfl, AllLt.append.2 ⟨lQ, AllLt.cons.2 ⟨Nat.mod_lt _ (by omega), AllLt.nil⟩⟩, by
          have := left_step HV.out HY.out
          unfold lval at *
          rw [val_snoc, HQ.out, val_take_succ _ _ _ hlt, ← HX.out]; exact this, hown1, (hb.trans ((below_alloc wr _).mono hb.size)).trans hb1⟩
      case measure => simp [intOf]; omega
    · have hke : k = (limbs m).length := by omega
      have hfin : lval (Q ++ [cc]) = m * 2 ^ n := by
        have := HV.out
        rw [hke, List.take_of_length_le (Nat.le_refl _), lval_limbs, ← hke] at this
        have hp : 2 ^ n = 2 ^ s * 4294967296 ^ q := by
          rw [HN.out, Nat.add_comm, Nat.pow_add, Nat.pow_mul]
        rw [hp, ← Nat.mul_assoc]
        unfold lval at *
        rw [val_snoc, HQ.out]; exact this
      have hc31 : cc < 4294967296 := Nat.lt_of_lt_of_le hcc (Nat.le_trans (Nat.pow_le_pow_right (by omega) (show s ≤ 32 by omega)) (by decide))
      have HF := hid hfin
      clear hfin hke hcc
      go_wp2_with (at_builtin; refine wpList_push ei_u32 (by omega) rfl _ _ rfl w.heap.size Q cc _ rfl (Own.alloc hown _) ⟨wr.heap.size, 0, none⟩ rfl (cell_push _ _ _ _ _ (by omega)) (by rw [HQ.out]; omega) (by simp; have := hb.size; omega) ?_; intro v1 w1 hown1 hb1)
      obtain ⟨ao, cap, rfl, hN⟩ := hown1.ns
      go_wp2_with fail
      have lQ1 : Lim (Q ++ [cc]) := AllLt.append.2 ⟨lQ, AllLt.cons.2 ⟨hc31, AllLt.nil⟩⟩
      refine (norm_any _ _ _ _ hN lQ1).mono ?_
      rintro e w' ⟨rfl, rfl⟩
      have hN' := hN.norm lQ1
      rw [HF.out] at hN' ⊢
      go_wp2_with fail
      go_ret
      exact ⟨_, rfl, hN', (hb.trans ((below_alloc wr _).mono hb.size)).trans hb1, hown1.fresh⟩
theorem left_any (a0 : Option Addr) (c0 : Nat) (m n : Nat) (w : World) (h0 : Ns .u32 w a0 c0 (limbs m)) (hm : (limbs m).length ≤ 4294967296) (hn : n ≤ 4294967296) (hp : 0 < (limbs m).length) :
    Calls Tryd.prog 132 #[.slice a0 (limbs m).length c0, .int .i64 (n : Int)] w fun e w' => RetN w (m * 2 ^ n) e w' :=
  (left_fresh a0 c0 m n w h0 hm hn hp).mono fun _ _ ⟨ao, h1, h2, h3, _⟩ => ⟨ao, h1, h2, h3⟩

theorem leftNil_any (a0 : Option Addr) (c0 : Nat) (n : Int) (w : World) :
    Calls Tryd.prog 132 #[.slice a0 (limbs 0).length c0, .int .i64 n] w fun e w' => RetN w 0 e w' := by
  rw [limbs_zero]
  go_enter Tryd.func132, Tryd.ntmps132
  go_wp2_with fail
  go_ret
  exact ⟨_, rfl, Ns.nil, Below.refl _ _⟩
theorem leftN_any (a0 : Option Addr) (c0 : Nat) (m n : Nat) (w : World) (h0 : Ns .u32 w a0 c0 (limbs m)) (hm : (limbs m).length ≤ 4294967296) (hn : n ≤ 4294967296) :
    Calls Tryd.prog 132 #[.slice a0 (limbs m).length c0, .int .i64 (n : Int)] w fun e w' => RetN w (m * 2 ^ n) e w' := by
  by_cases h : m = 0
  · subst h; rw [Nat.zero_mul]; exact leftNil_any _ _ _ _
  · exact left_any a0 c0 m n w h0 hm hn (List.length_pos_iff.2 (fun e => h ((limbs_nil m).1 e)))
end Go.Proofs.YteaakbeemhmciaaDoor
