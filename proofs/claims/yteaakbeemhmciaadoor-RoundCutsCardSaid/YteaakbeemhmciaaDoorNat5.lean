/- nat: division by a limb, shifts. -/
import Derived.Test.YteaakbeemhmciaaDoorNat4
namespace Go.Ulp
theorem small_step {T L b r x q r' : Nat} (h : T * b + r = L) (hx : r * 4294967296 + x = q * b + r') : (q + 4294967296 * T) * b + r' = x + 4294967296 * L := by
  rw [← h, Nat.add_mul, Nat.mul_add]
  have : 4294967296 * T * b = 4294967296 * (T * b) := by rw [Nat.mul_assoc]
  omega
end Go.Ulp
namespace Go.Proofs.YteaakbeemhmciaaDoor
open Go.RowKit Go.Ulp
set_option linter.unusedVariables false
set_option linter.unusedSimpArgs false
set_option maxHeartbeats 800000
set_option maxRecDepth 100000

theorem small_any (a0 : Option Addr) (c0 : Nat) (m b : Nat) (w : World) (h0 : Ns .u32 w a0 c0 (limbs m)) (hm : (limbs m).length ≤ 4294967296) (hb0 : 0 < b) (hb1 : b < 4294967296) :
    Calls Tryd.prog 167 #[.slice a0 (limbs m).length c0, .int .u32 (b : Int)] w fun e w' => RetN2 w (m / b) (.int .u32 ((m % b : Nat) : Int)) e w' := by
  have lL := limbs_lim m
  obtain ⟨hL1, hL2, hL3⟩ := h0
  unfold maxLen at hL2
  go_enter Tryd.func167, Tryd.ntmps167
  go_wp2_with (at_make; refine wpList_zeros ei_u32 (by omega) rfl _ _ rfl (limbs m).length _ _ _ _ rfl rfl (by omega) (by omega) (by omega) ?_; intro w1 hown hbl)
  obtain ⟨g, hg⟩ : ∃ g, g = w.heap.size := ⟨_, rfl⟩
  rw [← hg] at hown ⊢
  have HG := hid hg
  clear hg
  go_loopw [7, 8] (fun r i wr => ∃ (i0 : Int) (rr : Nat) (T : List Nat), i = .int .i64 i0 ∧ -1 ≤ i0 ∧ i0 < (limbs m).length ∧ r = .int .u64 rr ∧ rr < b ∧ Lim T ∧ T.length = (limbs m).length ∧ lval (T.drop (i0 + 1).toNat) * b + rr = lval ((limbs m).drop (i0 + 1).toNat) ∧ Own g 34 .u32 wr (.slice (some ⟨g, 0, none⟩) (limbs m).length (limbs m).length) T ∧ Below w.heap.size w wr) (fun _ i _ => (intOf i + 1).toNat)
  case atStart =>
    refine ⟨_, 0, _, rfl, by omega, by omega, rfl, hb0, AllLt.replicate (by omega), by simp, ?_, hown, hbl⟩
    rw [List.drop_eq_nil_iff.2 (by simp), List.drop_eq_nil_iff.2 (by omega)]
    simp [lval, val]
  case round =>
    clear hown hbl
    obtain ⟨i0, rr, T, rfl, hi1, hi2, rfl, hrb, lT, hT, hv, hown, hbl⟩ := hrel
    have HT := hid hT
    have HV := hid hv
    clear hT hv
    by_cases hi : i0 < 0
    · have hz : (i0 + 1).toNat = 0 := by omega
      have hv := HV.out
      rw [hz, List.drop_zero, List.drop_zero, lval_limbs] at hv
      have hfin : lval T = m / b := by rw [← hv, Nat.mul_comm, Nat.mul_add_div hb0, Nat.div_eq_of_lt hrb]; rfl
      have hrem : rr = m % b := by rw [← hv, Nat.mul_comm, Nat.mul_add_mod, Nat.mod_eq_of_lt hrb]
      have HF := hid hfin
      have HR := hid hrem
      clear hfin hrem hv hz
      obtain ⟨ao, cap, hval, hN⟩ := hown.ns
      have HVV := hid hval
      clear hval
      go_wp2_with fail
      rw [HVV.out]
      refine (norm_any _ _ _ _ hN lT).mono ?_
      rintro e w' ⟨rfl, rfl⟩
      have hN' := hN.norm lT
      rw [HF.out] at hN' ⊢
      go_wp2_with fail
      go_ret2
      refine ⟨_, ?_, hN', hbl⟩
      rw [← HR.out]; rfl
    · obtain ⟨j, rfl⟩ := Int.eq_ofNat_of_zero_le (show 0 ≤ i0 by omega)
      obtain ⟨b0, o0, rfl, hc0⟩ := hL3 (by omega)
      obtain ⟨x, hx⟩ : ∃ x, x = (limbs m).getD j 0 := ⟨_, rfl⟩
      have hx1 : x < 4294967296 := by rw [hx]; exact lL.getD (by omega) j
      have hcell : wr.cell? ⟨b0, o0 + j, none⟩ = some (.int .u32 (x : Int)) := by
        have h1 := hc0 j (by omega)
        have h2 := hbl.cell (p := ⟨b0, o0 + j, none⟩) (World.block_lt_of_cell? w _ h1)
        rw [h2, h1, hx]; rfl
      clear hc0 hL3
      have HX := hid hx
      clear hx
      have hcell2 := hown.cell j (by rw [HT.out]; omega)
      have hf := hown.free j
      have E := or_join32 (rr : Int) (x : Int) (by omega) (by omega) (by omega) (by omega)
      go_wp2_with fail
      have hlt : rr * 4294967296 + x < b * 4294967296 := by
        have := Nat.mul_le_mul_right 4294967296 (show rr + 1 ≤ b by omega)
        rw [Nat.add_mul] at this; omega
      have hq : (rr * 4294967296 + x) / b < 4294967296 := Nat.div_lt_of_lt_mul hlt
      have hs := hown.set j ((rr * 4294967296 + x) / b)
      have eq1 : ((rr : Int) * 4294967296 + (x : Int)) / (b : Int) % 4294967296 = (((rr * 4294967296 + x) / b : Nat) : Int) := by
        have : ((rr : Int) * 4294967296 + (x : Int)) / (b : Int) = (((rr * 4294967296 + x) / b : Nat) : Int) := by simp
        rw [this]; exact Int.emod_eq_of_lt (Int.natCast_nonneg _) (Int.ofNat_lt.2 hq)
      have eq2 : ((rr : Int) * 4294967296 + (x : Int)) % (b : Int) = (((rr * 4294967296 + x) % b : Nat) : Int) := by simp
      rw [eq1, eq2]
      refine ⟨⟨(j : Int) - 1, (rr * 4294967296 + x) % b, _, rfl, by omega, by omega, rfl, Nat.mod_lt _ hb0, lT.set j _ hq, by rw [List.length_set]; exact HT.out, ?_, hs, ?_⟩, by simp [intOf]⟩
      · rw [show ((j : Int) - 1 + 1).toNat = j by omega]
        have hv := HV.out
        rw [show ((j : Int) + 1).toNat = j + 1 by omega] at hv
        have e1 : lval ((T.set j ((rr * 4294967296 + x) / b)).drop j) = (rr * 4294967296 + x) / b + 4294967296 * lval (T.drop (j + 1)) := val_drop_set _ _ _ _ (by rw [HT.out]; omega)
        have e2 : lval ((limbs m).drop j) = (limbs m).getD j 0 + 4294967296 * lval ((limbs m).drop (j + 1)) := val_drop _ _ _ (by omega)
        rw [e1, e2, ← HX.out]
        exact small_step hv (by have := Nat.div_add_mod (rr * 4294967296 + x) b; rw [Nat.mul_comm b] at this; omega)
      · exact hbl.trans ((hown.set_below _ _).mono (by rw [HG.out]; exact Nat.le_refl _))
end Go.Proofs.YteaakbeemhmciaaDoor
