/- nat: sums and differences. -/
import Derived.Test.YteaakbeemhmciaaDoorNat1
namespace Go.Ulp
theorem plus_step {m n c x y : Nat} (h : m + 4294967296 ^ n * c = x + y) (u v : Nat) :
    m + 4294967296 ^ n * ((c + u + v) % 4294967296) + 4294967296 ^ (n + 1) * ((c + u + v) / 4294967296) = (x + 4294967296 ^ n * u) + (y + 4294967296 ^ n * v) := by
  rw [Nat.pow_succ, Nat.mul_assoc, Nat.add_assoc, ← Nat.mul_add, Nat.mod_add_div, Nat.mul_add, Nat.mul_add]; omega
end Go.Ulp
namespace Go.Proofs.YteaakbeemhmciaaDoor
open Go.RowKit Go.Ulp
set_option linter.unusedVariables false
set_option linter.unusedSimpArgs false
set_option maxHeartbeats 400000
set_option maxRecDepth 100000

theorem plus_core (aL aM : Option Addr) (cL cM : Nat) (m n : Nat) (w : World) (hL : Ns .u32 w aL cL (limbs m)) (hM : Ns .u32 w aM cM (limbs n)) (hs : (limbs m).length ≤ 4294967296)
    (args : Array Value) (hargs : (args = #[.slice aL (limbs m).length cL, .slice aM (limbs n).length cM] ∧ (limbs n).length ≤ (limbs m).length ∧ decide ((limbs m).length < (limbs n).length) = false) ∨ (args = #[.slice aM (limbs n).length cM, .slice aL (limbs m).length cL] ∧ (limbs n).length ≤ (limbs m).length ∧ decide ((limbs n).length < (limbs m).length) = true)) :
    Calls Tryd.prog 161 args w fun e w' => RetN w (m + n) e w' := by
  have lL := limbs_lim m
  have lM := limbs_lim n
  obtain ⟨hL1, hL2, hL3⟩ := hL
  obtain ⟨hM1, hM2, hM3⟩ := hM
  unfold maxLen at hL2 hM2
  rcases hargs with ⟨rfl, hlen, hdl⟩ | ⟨rfl, hlen, hdl⟩
  all_goals
    go_enter Tryd.func161, Tryd.ntmps161
    go_wp2_with fail
    go_loopw [5, 6, 18] (fun o c i wr => ∃ (k cc : Nat) (Q : List Nat), k ≤ (limbs m).length ∧ i = .int .i64 k ∧ c = .int .u64 cc ∧ cc ≤ 1 ∧ Q.length = k ∧ Lim Q ∧ lval Q + 4294967296 ^ k * cc = lval ((limbs m).take k) + lval ((limbs n).take k) ∧ Own w.heap.size 34 .u32 wr o Q ∧ Below w.heap.size w wr) (fun _ _ i _ => (limbs m).length - (intOf i).toNat)
    case atStart => exact ⟨0, 0, [], by omega, rfl, rfl, by omega, rfl, AllLt.nil, by simp [lval, val], Own.nil, Below.refl _ _⟩
    case round =>
      obtain ⟨k, cc, Q, hk, rfl, rfl, hcc, hQ, lQ, hv, hown, hb⟩ := hrel
      have HQ := hid hQ
      have HV := hid hv
      clear hQ hv
      by_cases hlt : k < (limbs m).length
      · obtain ⟨b0, o0, rfl, hc0⟩ := hL3 (by omega)
        obtain ⟨x, hx⟩ : ∃ x, x = (limbs m).getD k 0 := ⟨_, rfl⟩
        have hx1 : x < 4294967296 := by rw [hx]; exact lL.getD (by omega) k
        have hcell : wr.cell? ⟨b0, o0 + k, none⟩ = some (.int .u32 (x : Int)) := by
          have h1 := hc0 k hlt
          have h2 := hb.cell (p := ⟨b0, o0 + k, none⟩) (World.block_lt_of_cell? w _ h1)
          rw [h2, h1, hx]; rfl
        clear hc0 hL3
        have HX := hid hx
        clear hx
        by_cases hlt2 : k < (limbs n).length
        · obtain ⟨b1, o1, rfl, hc1⟩ := hM3 (by omega)
          obtain ⟨y, hy⟩ : ∃ y, y = (limbs n).getD k 0 := ⟨_, rfl⟩
          have hy1 : y < 4294967296 := by rw [hy]; exact lM.getD (by omega) k
          have hcell1 : wr.cell? ⟨b1, o1 + k, none⟩ = some (.int .u32 (y : Int)) := by
            have h1 := hc1 k hlt2
            have h2 := hb.cell (p := ⟨b1, o1 + k, none⟩) (World.block_lt_of_cell? w _ h1)
            rw [h2, h1, hy]; rfl
          clear hc1 hM3
          have HY := hid hy
          clear hy
          go_wp2_with (at_builtin; refine wpList_push ei_u32 (by omega) rfl _ _ rfl w.heap.size Q ((cc + x + y) % 4294967296) _ rfl (Own.alloc hown _) ⟨wr.heap.size, 0, none⟩ rfl (cell_push _ _ _ _ _ (by omega)) (by rw [HQ.out]; omega) (by simp; have := hb.size; omega) ?_; intro v1 w1 hown1 hb1)
          go_roundw
          case rel => exact ⟨k + 1, (cc + x + y) / 4294967296, Q ++ [(cc + x + y) % 4294967296], by omega, by go_num, by go_num, by omega, by rw [List.length_append, HQ.out]; rfl, AllLt.append.2 ⟨lQ, AllLt.cons.2 ⟨Nat.mod_lt _ (by omega), AllLt.nil⟩⟩, by
              have := plus_step HV.out x y
              unfold lval at *
              rw [val_snoc, HQ.out, val_take_succ _ _ _ hlt, val_take_succ _ _ _ hlt2, ← HX.out, ← HY.out]; exact this, hown1, (hb.trans ((below_alloc wr _).mono hb.size)).trans hb1⟩
          case measure => simp [intOf]; omega
        · have HY := hid (show (limbs n).take (k + 1) = (limbs n).take k by rw [List.take_of_length_le (by omega), List.take_of_length_le (by omega)])
          go_wp2_with (at_builtin; refine wpList_push ei_u32 (by omega) rfl _ _ rfl w.heap.size Q ((cc + x) % 4294967296) _ rfl (Own.alloc hown _) ⟨wr.heap.size, 0, none⟩ rfl (cell_push _ _ _ _ _ (by omega)) (by rw [HQ.out]; omega) (by simp; have := hb.size; omega) ?_; intro v1 w1 hown1 hb1)
          go_roundw
          case rel => exact ⟨k + 1, (cc + x) / 4294967296, Q ++ [(cc + x) % 4294967296], by omega, by go_num, by go_num, by omega, by rw [List.length_append, HQ.out]; rfl, AllLt.append.2 ⟨lQ, AllLt.cons.2 ⟨Nat.mod_lt _ (by omega), AllLt.nil⟩⟩, by
              have := plus_step HV.out x 0
              unfold lval at *
              rw [val_snoc, HQ.out, val_take_succ _ _ _ hlt, HY.out, ← HX.out]; simpa using this, hown1, (hb.trans ((below_alloc wr _).mono hb.size)).trans hb1⟩
          case measure => simp [intOf]; omega
      · have hke : k = (limbs m).length := by omega
        have hfin : lval (Q ++ [cc]) = m + n := by
          have := HV.out
          rw [hke, List.take_of_length_le (Nat.le_refl _), List.take_of_length_le hlen, lval_limbs, lval_limbs, ← hke] at this
          unfold lval at *
          rw [val_snoc, HQ.out]; exact this
        have HF := hid hfin
        clear hfin hke
        go_wp2_with (at_builtin; refine wpList_push ei_u32 (by omega) rfl _ _ rfl w.heap.size Q cc _ rfl (Own.alloc hown _) ⟨wr.heap.size, 0, none⟩ rfl (cell_push _ _ _ _ _ (by omega)) (by rw [HQ.out]; omega) (by simp; have := hb.size; omega) ?_; intro v1 w1 hown1 hb1)
        obtain ⟨ao, cap, rfl, hN⟩ := hown1.ns
        go_wp2_with fail
        have lQ1 : Lim (Q ++ [cc]) := AllLt.append.2 ⟨lQ, AllLt.cons.2 ⟨by omega, AllLt.nil⟩⟩
        refine (norm_any _ _ _ _ hN lQ1).mono ?_
        rintro e w' ⟨rfl, rfl⟩
        have hN' := hN.norm lQ1
        rw [HF.out] at hN' ⊢
        go_wp2_with fail
        go_ret
        exact ⟨_, rfl, hN', (hb.trans ((below_alloc wr _).mono hb.size)).trans hb1⟩
end Go.Proofs.YteaakbeemhmciaaDoor
