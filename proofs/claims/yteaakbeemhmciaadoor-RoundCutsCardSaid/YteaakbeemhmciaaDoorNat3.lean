/- nat: differences, products. -/
import Derived.Test.YteaakbeemhmciaaDoorNat2
namespace Go.Ulp
theorem minus_step0 {m n q b k : Nat} (h : m + 4294967296 ^ k * b = q + n) (x y : Nat) (hxy : b + y ≤ x) :
    (m + 4294967296 ^ k * x) + 4294967296 ^ (k + 1) * 0 = (q + 4294967296 ^ k * (x - b - y)) + (n + 4294967296 ^ k * y) := by
  obtain ⟨z, rfl⟩ : ∃ z, x = z + b + y := ⟨x - b - y, by omega⟩
  rw [show z + b + y - b - y = z by omega, Nat.mul_add, Nat.mul_add]; omega
theorem minus_step1 {m n q b k : Nat} (h : m + 4294967296 ^ k * b = q + n) (x y : Nat) (hx : x < 4294967296) (hy : y < 4294967296) (hb : b ≤ 1) (hxy : x < b + y) :
    (m + 4294967296 ^ k * x) + 4294967296 ^ (k + 1) * 1 = (q + 4294967296 ^ k * (x + 4294967296 - b - y)) + (n + 4294967296 ^ k * y) := by
  obtain ⟨z, hz⟩ : ∃ z, x + 4294967296 = z + b + y := ⟨x + 4294967296 - b - y, by omega⟩
  have e := congrArg (fun t => 4294967296 ^ k * t) hz
  simp only [Nat.mul_add] at e
  rw [show x + 4294967296 - b - y = z by omega, Nat.pow_succ, Nat.mul_one]; omega
theorem minus_end {m n q b k : Nat} (h : m + 4294967296 ^ k * b = q + n) (hb : b ≤ 1) (hq : q < 4294967296 ^ k) (hn : n ≤ m) : q = m - n := by
  have : b = 0 ∨ b = 1 := by omega
  rcases this with rfl | rfl
  · omega
  · rw [Nat.mul_one] at h; omega
end Go.Ulp
namespace Go.Proofs.YteaakbeemhmciaaDoor
open Go.RowKit Go.Ulp
set_option linter.unusedVariables false
set_option linter.unusedSimpArgs false
set_option maxHeartbeats 400000
set_option maxRecDepth 100000

theorem plus_any (a0 a1 : Option Addr) (c0 c1 : Nat) (m n : Nat) (w : World) (h0 : Ns .u32 w a0 c0 (limbs m)) (h1 : Ns .u32 w a1 c1 (limbs n)) (hm : (limbs m).length ≤ 4294967296) (hn : (limbs n).length ≤ 4294967296) :
    Calls Tryd.prog 161 #[.slice a0 (limbs m).length c0, .slice a1 (limbs n).length c1] w fun e w' => RetN w (m + n) e w' := by
  by_cases h : (limbs m).length < (limbs n).length
  · have := plus_core a1 a0 c1 c0 n m w h1 h0 hn _ (.inr ⟨rfl, by omega, by simpa using h⟩)
    rwa [Nat.add_comm] at this
  · exact plus_core a0 a1 c0 c1 m n w h0 h1 hm _ (.inl ⟨rfl, by omega, by simpa using h⟩)

theorem minus_any (aL aM : Option Addr) (cL cM : Nat) (m n : Nat) (w : World) (hL : Ns .u32 w aL cL (limbs m)) (hM : Ns .u32 w aM cM (limbs n)) (hs : (limbs m).length ≤ 4294967296) (hnm : n ≤ m) :
    Calls Tryd.prog 143 #[.slice aL (limbs m).length cL, .slice aM (limbs n).length cM] w fun e w' => RetN w (m - n) e w' := by
  have lL := limbs_lim m
  have lM := limbs_lim n
  have hlen : (limbs n).length ≤ (limbs m).length := digs_len_mono _ (by omega) hnm
  have HNM := hid hnm
  clear hnm
  obtain ⟨hL1, hL2, hL3⟩ := hL
  obtain ⟨hM1, hM2, hM3⟩ := hM
  unfold maxLen at hL2 hM2
  go_enter Tryd.func143, Tryd.ntmps143
  go_wp2_with fail
  go_loopw [5, 6, 12] (fun o c i wr => ∃ (k bb : Nat) (Q : List Nat), k ≤ (limbs m).length ∧ i = .int .i64 k ∧ c = .int .i64 bb ∧ bb ≤ 1 ∧ Q.length = k ∧ Lim Q ∧ lval ((limbs m).take k) + 4294967296 ^ k * bb = lval Q + lval ((limbs n).take k) ∧ Own w.heap.size 34 .u32 wr o Q ∧ Below w.heap.size w wr) (fun _ _ i _ => (limbs m).length - (intOf i).toNat)
  case atStart => exact ⟨0, 0, [], by omega, rfl, rfl, by omega, rfl, AllLt.nil, by simp [lval, val], Own.nil, Below.refl _ _⟩
  case round =>
    obtain ⟨k, bb, Q, hk, rfl, rfl, hbb, hQ, lQ, hv, hown, hb⟩ := hrel
    have HQ := hid hQ
    have HV := hid hv
    clear hQ hv
    by_cases hlt : k < (limbs m).length
    · obtain ⟨b0, o0, rfl, hc0⟩ := hL3 (by omega)
      obtain ⟨x, hx⟩ : ∃ x, x = (limbs m).getD k 0 := ⟨_, rfl⟩
      have hx1 : x < 4294967296 := by rw [hx]; exact lL.getD (by omega) k
      have hcell : wr.cell? ⟨b0, o0 + k, none⟩ = some (.int .u32 (x : Int)) := by
        have h1 := hc0 k hlt
        have h2 := hb.cell (p := ⟨b0, o0 + k, none⟩) (World.block_lt_of_cell? w _ h1)
        rw [h2, h1, hx]; rfl
      clear hc0 hL3
      have HX := hid hx
      clear hx
      by_cases hlt2 : k < (limbs n).length
      · obtain ⟨b1, o1, rfl, hc1⟩ := hM3 (by omega)
        obtain ⟨y, hy⟩ : ∃ y, y = (limbs n).getD k 0 := ⟨_, rfl⟩
        have hy1 : y < 4294967296 := by rw [hy]; exact lM.getD (by omega) k
        have hcell1 : wr.cell? ⟨b1, o1 + k, none⟩ = some (.int .u32 (y : Int)) := by
          have h1 := hc1 k hlt2
          have h2 := hb.cell (p := ⟨b1, o1 + k, none⟩) (World.block_lt_of_cell? w _ h1)
          rw [h2, h1, hy]; rfl
        clear hc1 hM3
        have HY := hid hy
        clear hy
        by_cases hxy : x < bb + y
        · go_wp2_with (at_builtin; refine wpList_push ei_u32 (by omega) rfl _ _ rfl w.heap.size Q (x + 4294967296 - bb - y) _ rfl (Own.alloc hown _) ⟨wr.heap.size, 0, none⟩ rfl (cell_push _ _ _ _ _ (by omega)) (by rw [HQ.out]; omega) (by simp; have := hb.size; omega) ?_; intro v1 w1 hown1 hb1)
          go_roundw
          case rel => exact ⟨k + 1, 1, Q ++ [x + 4294967296 - bb - y], by omega, by go_num, by go_num, by omega, by rw [List.length_append, HQ.out]; rfl, AllLt.append.2 ⟨lQ, AllLt.cons.2 ⟨by omega, AllLt.nil⟩⟩, by
              have := minus_step1 HV.out x y hx1 hy1 hbb hxy
              unfold lval at *
              rw [val_snoc, HQ.out, val_take_succ _ _ _ hlt, val_take_succ _ _ _ hlt2, ← HX.out, ← HY.out]; exact this, hown1, (hb.trans ((below_alloc wr _).mono hb.size)).trans hb1⟩
          case measure => simp [intOf]; omega
        · go_wp2_with (at_builtin; refine wpList_push ei_u32 (by omega) rfl _ _ rfl w.heap.size Q (x - bb - y) _ rfl (Own.alloc hown _) ⟨wr.heap.size, 0, none⟩ rfl (cell_push _ _ _ _ _ (by omega)) (by rw [HQ.out]; omega) (by simp; have := hb.size; omega) ?_; intro v1 w1 hown1 hb1)
          go_roundw
          case rel => exact ⟨k + 1, 0, Q ++ [x - bb - y], by omega, by go_num, by go_num, by omega, by rw [List.length_append, HQ.out]; rfl, AllLt.append.2 ⟨lQ, AllLt.cons.2 ⟨by omega, AllLt.nil⟩⟩, by
              have := minus_step0 HV.out x y (by omega)
              unfold lval at *
              rw [val_snoc, HQ.out, val_take_succ _ _ _ hlt, val_take_succ _ _ _ hlt2, ← HX.out, ← HY.out]; exact this, hown1, (hb.trans ((below_alloc wr _).mono hb.size)).trans hb1⟩
          case measure => simp [intOf]; omega
      · have HY := hid (show (limbs n).take (k + 1) = (limbs n).take k by rw [List.take_of_length_le (by omega), List.take_of_length_le (by omega)])
        by_cases hxy : x < bb
        · go_wp2_with (at_builtin; refine wpList_push ei_u32 (by omega) rfl _ _ rfl w.heap.size Q (x + 4294967296 - bb) _ rfl (Own.alloc hown _) ⟨wr.heap.size, 0, none⟩ rfl (cell_push _ _ _ _ _ (by omega)) (by rw [HQ.out]; omega) (by simp; have := hb.size; omega) ?_; intro v1 w1 hown1 hb1)
          go_roundw
          case rel => exact ⟨k + 1, 1, Q ++ [x + 4294967296 - bb], by omega, by go_num, by go_num, by omega, by rw [List.length_append, HQ.out]; rfl, AllLt.append.2 ⟨lQ, AllLt.cons.2 ⟨by omega, AllLt.nil⟩⟩, by
              have := minus_step1 HV.out x 0 hx1 (by omega) hbb (by omega)
              unfold lval at *
              rw [val_snoc, HQ.out, val_take_succ _ _ _ hlt, HY.out, ← HX.out]; simpa using this, hown1, (hb.trans ((below_alloc wr _).mono hb.size)).trans hb1⟩
          case measure => simp [intOf]; omega
        · go_wp2_with (at_builtin; refine wpList_push ei_u32 (by omega) rfl _ _ rfl w.heap.size Q (x - bb) _ rfl (Own.alloc hown _) ⟨wr.heap.size, 0, none⟩ rfl (cell_push _ _ _ _ _ (by omega)) (by rw [HQ.out]; omega) (by simp; have := hb.size; omega) ?_; intro v1 w1 hown1 hb1)
          go_roundw
          case rel => exact ⟨k + 1, 0, Q ++ [x - bb], by omega, by go_num, by go_num, by omega, by rw [List.length_append, HQ.out]; rfl, AllLt.append.2 ⟨lQ, AllLt.cons.2 ⟨by omega, AllLt.nil⟩⟩, by
              have := minus_step0 HV.out x 0 (by omega)
              unfold lval at *
              rw [val_snoc, HQ.out, val_take_succ _ _ _ hlt, HY.out, ← HX.out]; simpa using this, hown1, (hb.trans ((below_alloc wr _).mono hb.size)).trans hb1⟩
          case measure => simp [intOf]; omega
    · have hke : k = (limbs m).length := by omega
      have hfin : lval Q = m - n := by
        have := HV.out
        rw [hke, List.take_of_length_le (Nat.le_refl _), List.take_of_length_le hlen, lval_limbs, lval_limbs, ← hke] at this
        exact minus_end this hbb (by have := lval_lt Q lQ; rwa [HQ.out] at this) HNM.out
      have HF := hid hfin
      clear hfin hke
      obtain ⟨ao, cap, rfl, hN⟩ := hown.ns
      go_wp2_with fail
      refine (norm_any _ _ _ _ hN lQ).mono ?_
      rintro e w' ⟨rfl, rfl⟩
      have hN' := hN.norm lQ
      rw [HF.out] at hN' ⊢
      go_wp2_with fail
      go_ret
      exact ⟨_, rfl, hN', hb⟩
end Go.Proofs.YteaakbeemhmciaaDoor
