/- nat: products. -/
import Derived.Test.YteaakbeemhmciaaDoorNat3
namespace Go.Ulp
theorem val_set' (L : List Nat) (i d : Nat) (h : i < L.length) : lval (L.set i d) + 4294967296 ^ i * L.getD i 0 = lval L + 4294967296 ^ i * d := val_set _ L i d h
theorem pow_u32 (a b : Nat) : 4294967296 ^ (a + b) = 4294967296 ^ a * 4294967296 ^ b := Nat.pow_add _ _ _
/-- one more limb of the inner row -/
theorem times_step {v v' v0 c x s k l t y : Nat} (h : v + 4294967296 ^ (k + l) * c = v0 + 4294967296 ^ k * (x * s))
    (hs : v' + 4294967296 ^ (k + l) * t = v + 4294967296 ^ (k + l) * ((c + (x * y + t)) % 4294967296)) :
    v' + 4294967296 ^ (k + (l + 1)) * ((c + (x * y + t)) / 4294967296) = v0 + 4294967296 ^ k * (x * (s + 4294967296 ^ l * y)) := by
  have e1 := Nat.mod_add_div (c + (x * y + t)) 4294967296
  have e2 := congrArg (fun z => 4294967296 ^ (k + l) * z) e1
  simp only [Nat.mul_add] at e2
  have e3 : 4294967296 ^ (k + (l + 1)) * ((c + (x * y + t)) / 4294967296) = 4294967296 ^ (k + l) * (4294967296 * ((c + (x * y + t)) / 4294967296)) := by
    rw [show k + (l + 1) = (k + l) + 1 by omega, Nat.pow_succ, Nat.mul_assoc]
  have e4 : 4294967296 ^ k * (x * (s + 4294967296 ^ l * y)) = 4294967296 ^ k * (x * s) + 4294967296 ^ (k + l) * (x * y) := by
    rw [Nat.mul_add, Nat.mul_add, pow_u32, Nat.mul_assoc, ← Nat.mul_assoc x, Nat.mul_comm x (4294967296 ^ l), Nat.mul_assoc (4294967296 ^ l)]
  rw [e3, e4]; omega
theorem times_row {v v' v0 c x n k l : Nat} (h : v + 4294967296 ^ (k + l) * c = v0 + 4294967296 ^ k * (x * n)) (hs : v' + 4294967296 ^ (k + l) * 0 = v + 4294967296 ^ (k + l) * c)
    (m : Nat) (hv : v0 = m * n) : v' = (m + 4294967296 ^ k * x) * n := by
  rw [Nat.add_mul, Nat.mul_assoc]; omega
end Go.Ulp
namespace Go.Proofs.YteaakbeemhmciaaDoor
open Go.RowKit Go.Ulp
set_option linter.unusedVariables false
set_option linter.unusedSimpArgs false
set_option maxHeartbeats 800000
set_option maxRecDepth 100000

theorem times_any (a0 a1 : Option Addr) (c0 c1 : Nat) (m n : Nat) (w : World) (h0 : Ns .u32 w a0 c0 (limbs m)) (h1 : Ns .u32 w a1 c1 (limbs n)) (hm : (limbs m).length ≤ 4294967296) (hn : (limbs n).length ≤ 4294967296) :
    Calls Tryd.prog 163 #[.slice a0 (limbs m).length c0, .slice a1 (limbs n).length c1] w fun e w' => RetN w (m * n) e w' := by
  have lL := limbs_lim m
  have lM := limbs_lim n
  obtain ⟨hL1, hL2, hL3⟩ := h0
  obtain ⟨hM1, hM2, hM3⟩ := h1
  unfold maxLen at hL2 hM2
  go_enter Tryd.func163, Tryd.ntmps163
  go_wp2_with (at_make; refine wpList_zeros ei_u32 (by omega) rfl _ _ rfl ((limbs m).length + (limbs n).length) _ _ _ _ rfl rfl (by omega) (by omega) (by omega) ?_; intro w1 hown hb0)
  obtain ⟨g, hg⟩ : ∃ g, g = w.heap.size := ⟨_, rfl⟩
  rw [← hg] at hown ⊢
  have HG := hid hg
  clear hg
  go_loopw [6, 7, 8, 19] (fun _ _ _ i wr => ∃ (k : Nat) (T : List Nat), k ≤ (limbs m).length ∧ i = .int .i64 k ∧ Lim T ∧ lval T = lval ((limbs m).take k) * n ∧ T.length = (limbs m).length + (limbs n).length ∧ (∀ j, k + (limbs n).length ≤ j → T.getD j 0 = 0) ∧ Own g 34 .u32 wr (.slice (some ⟨g, 0, none⟩) ((limbs m).length + (limbs n).length) ((limbs m).length + (limbs n).length)) T ∧ Below w.heap.size w wr) (fun _ _ _ i _ => (limbs m).length - (intOf i).toNat)
  case atStart =>
    refine ⟨0, _, by omega, rfl, AllLt.replicate (by omega), ?_, by simp, fun j _ => getD_replicate _ _, hown, hb0⟩
    unfold lval; rw [val_replicate]; simp [val]
  case round =>
    obtain ⟨k, T, hk, rfl, lT, hv, hT, hz, hown, hb⟩ := hrel
    have HT := hid hT
    have HV := hid hv
    have HZ := hid hz
    clear hT hv hz
    by_cases hlt : k < (limbs m).length
    · obtain ⟨b0, o0, rfl, hc0⟩ := hL3 (by omega)
      obtain ⟨x, hx⟩ : ∃ x, x = (limbs m).getD k 0 := ⟨_, rfl⟩
      have hx1 : x < 4294967296 := by rw [hx]; exact lL.getD (by omega) k
      have hcell : wr.cell? ⟨b0, o0 + k, none⟩ = some (.int .u32 (x : Int)) := by
        have h1 := hc0 k hlt
        have h2 := hb.cell (p := ⟨b0, o0 + k, none⟩) (World.block_lt_of_cell? w _ h1)
        rw [h2, h1, hx]; rfl
      clear hc0 hL3
      have HX := hid hx
      clear hx
      go_wp2_with fail
      clear hcell
      obtain ⟨wo, rfl⟩ : ∃ wo : World, wo = wr := ⟨_, rfl⟩
      go_loopw [8, 9, 10, 26] (fun c _ _ i wr => ∃ (l cc : Nat) (U : List Nat), l ≤ (limbs n).length ∧ i = .int .i64 l ∧ c = .int .u64 cc ∧ cc < 4294967296 ∧ Lim U ∧ lval U + 4294967296 ^ (k + l) * cc = lval T + 4294967296 ^ k * (x * lval ((limbs n).take l)) ∧ U.length = (limbs m).length + (limbs n).length ∧ (∀ j, k + l ≤ j → U.getD j 0 = T.getD j 0) ∧ Own g 34 .u32 wr (.slice (some ⟨g, 0, none⟩) ((limbs m).length + (limbs n).length) ((limbs m).length + (limbs n).length)) U ∧ Below w.heap.size w wr) (fun _ _ _ i _ => (limbs n).length - (intOf i).toNat)
      case atStart =>
        exact ⟨0, 0, T, by omega, rfl, rfl, by omega, lT, by simp [lval, val], HT.out, fun _ _ => rfl, hown, hb⟩
      case round =>
        clear hown hb
        obtain ⟨l, cc, U, hl, rfl, rfl, hcc, lU, hv, hU, hz, hown, hb⟩ := hrel
        have HU := hid hU
        have HW := hid hv
        have HY := hid hz
        clear hU hv hz
        have hfree := hown.free
        by_cases hlt2 : l < (limbs n).length
        · obtain ⟨b1, o1, rfl, hc1⟩ := hM3 (by omega)
          obtain ⟨y, hy⟩ : ∃ y, y = (limbs n).getD l 0 := ⟨_, rfl⟩
          have hy1 : y < 4294967296 := by rw [hy]; exact lM.getD (by omega) l
          have hcell1 : wr.cell? ⟨b1, o1 + l, none⟩ = some (.int .u32 (y : Int)) := by
            have h1 := hc1 l hlt2
            have h2 := hb.cell (p := ⟨b1, o1 + l, none⟩) (World.block_lt_of_cell? w _ h1)
            rw [h2, h1, hy]; rfl
          obtain ⟨t, ht⟩ : ∃ t, t = U.getD (k + l) 0 := ⟨_, rfl⟩
          have ht1 : t < 4294967296 := by rw [ht]; exact lU.getD (by omega) _
          have hcell2 : wr.cell? ⟨g, k + l, none⟩ = some (.int .u32 (t : Int)) := by
            rw [hown.cell (k + l) (by rw [HU.out]; omega), ht]; rfl
          have hf := hfree (k + l)
          obtain ⟨z, hz⟩ : ∃ z, z = x * y := ⟨_, rfl⟩
          have hz1 : z ≤ 18446744065119617025 := by
            rw [hz]; exact Nat.le_trans (Nat.mul_le_mul (show x ≤ 4294967295 by omega) (show y ≤ 4294967295 by omega)) (by decide)
          have hz2 : (x : Int) * (y : Int) = (z : Int) := by rw [hz]; exact (Int.natCast_mul _ _).symm
          clear hc1 hM3 hfree
          have HYY := hid hy
          have HTT := hid ht
          have HZZ := hid hz
          clear hy ht hz
          go_wp2_with fail
          go_roundw
          case rel =>
            have hs := hown.set (k + l) ((cc + (z + t)) % 4294967296)
            rw [show (((cc + (z + t)) % 4294967296 : Nat) : Int) = ((cc : Int) + ((z : Int) + (t : Int))) % 4294967296 by omega] at hs
            refine ⟨l + 1, (cc + (z + t)) / 4294967296, _, by omega, by go_num, by go_num, by omega, lU.set (k + l) ((cc + (z + t)) % 4294967296) (Nat.mod_lt _ (by omega)), ?_, by rw [List.length_set]; exact HU.out, ?_, hs, ?_⟩
            · have hst := val_set' U (k + l) ((cc + (z + t)) % 4294967296) (by rw [HU.out]; omega)
              rw [← HTT.out, HZZ.out] at hst
              have := times_step HW.out hst
              rw [show lval ((limbs n).take (l + 1)) = lval ((limbs n).take l) + 4294967296 ^ l * (limbs n).getD l 0 from val_take_succ _ _ _ hlt2, ← HYY.out, HZZ.out]; exact this
            · intro j hj
              rw [lset_ne _ _ _ _ (by omega)]; exact HY.out j (by omega)
            · exact hb.trans ((hown.set_below _ _).mono (by rw [HG.out]; exact Nat.le_refl _))
          case measure => simp [intOf]; omega
        · have hle : l = (limbs n).length := by omega
          have hcell2 : wr.cell? ⟨g, k + (limbs n).length, none⟩ = some (.int .u32 0) := by
            rw [hown.cell (k + (limbs n).length) (by rw [HU.out]; omega)]
            unfold lb; rw [HY.out _ (by omega), HZ.out _ (by omega)]; rfl
          have hf := hfree (k + (limbs n).length)
          clear hfree
          have HLE := hid hle
          clear hle
          go_wp2_with fail
          go_roundw
          case rel =>
            have hs := hown.set (k + (limbs n).length) cc
            have e0 : U.getD (k + (limbs n).length) 0 = 0 := by rw [HY.out _ (by omega), HZ.out _ (by omega)]
            refine ⟨k + 1, _, by omega, by go_num, lU.set (k + (limbs n).length) cc hcc, ?_, by rw [List.length_set]; exact HU.out, ?_, hs, ?_⟩
            · have hst := val_set' U (k + (limbs n).length) cc (by rw [HU.out]; omega)
              rw [e0] at hst
              have hw := HW.out
              rw [HLE.out, List.take_of_length_le (Nat.le_refl _), lval_limbs] at hw
              rw [show lval ((limbs m).take (k + 1)) = lval ((limbs m).take k) + 4294967296 ^ k * (limbs m).getD k 0 from val_take_succ _ _ _ hlt, ← HX.out]
              exact times_row hw hst _ HV.out
            · intro j hj
              rw [lset_ne _ _ _ _ (by omega), HY.out _ (by omega), HZ.out _ (by omega)]
            · exact hb.trans ((hown.set_below _ _).mono (by rw [HG.out]; exact Nat.le_refl _))
          case measure => simp [intOf]; omega
    · have hfin : lval T = m * n := by
        rw [HV.out, List.take_of_length_le (by omega), lval_limbs]
      have HF := hid hfin
      clear hfin
      go_wp2_with fail
      obtain ⟨ao, cap, hval, hN⟩ := hown.ns
      rw [hval]
      refine (norm_any _ _ _ _ hN lT).mono ?_
      rintro e w' ⟨rfl, rfl⟩
      have hN' := hN.norm lT
      rw [HF.out] at hN' ⊢
      go_wp2_with fail
      go_ret
      exact ⟨_, rfl, hN', hb⟩
end Go.Proofs.YteaakbeemhmciaaDoor
