/- nat: lists as they are handed in: Check, check, LimbsRight. -/
import Derived.Test.YteaakbeemhmciaaDoorNat10
set_option linter.unusedVariables false
set_option linter.unusedSimpArgs false
namespace Go.Ulp
open Go.RowKit
/-- what is wrong with a list -/
def limbE (L : List Nat) : Int := if 400 < L.length then 2 else if L.length = 0 ∨ L.getD (L.length - 1) 0 ≠ 0 then 0 else 3
def limbE2 (L M : List Nat) : Int := if limbE L = 0 then limbE M else limbE L
theorem limbE_zero {L : List Nat} (h : limbE L = 0) : L.length ≤ 400 ∧ Trim L := by
  unfold limbE at h
  split at h
  · cases h
  · split at h
    · rename_i h1; exact ⟨by omega, (trim_iff L).2 h1⟩
    · cases h
theorem limbE2_zero {L M : List Nat} (h : limbE2 L M = 0) : limbE L = 0 ∧ limbE M = 0 := by
  unfold limbE2 at h
  split at h
  · rename_i h1; exact ⟨h1, h⟩
  · rename_i h1; exact absurd h h1
theorem limbs_self {L : List Nat} (hl : Lim L) (ht : Trim L) : limbs (lval L) = L := digs_val _ (by omega) L hl ht
end Go.Ulp
namespace Go.Proofs.YteaakbeemhmciaaDoor
open Go.RowKit Go.Ulp
set_option linter.unusedVariables false
set_option linter.unusedSimpArgs false
set_option maxHeartbeats 1000000
set_option maxRecDepth 100000
theorem natCheck_any (ao : Option Addr) (cap : Nat) (L : List Nat) (w : World) (hN : Ns .u32 w ao cap L) :
    Calls Tryd.prog 97 #[.slice ao L.length cap] w fun e w' => e = .returned (.int .i64 (limbE L)) ∧ w = w' := by
  obtain ⟨n, hn⟩ : ∃ n, n = L.length := ⟨_, rfl⟩
  have hcap := hN.1
  have hcap2 := hN.2.1
  unfold maxLen at hcap2
  by_cases h4 : 400 < L.length
  · have H := hid (show 2 = limbE L by unfold limbE; rw [if_pos h4])
    rw [← hn] at h4 ⊢ hcap
    go_enter Tryd.func97, Tryd.ntmps97
    go_wp2_with fail
    go_ret
    exact ⟨ret_int H.out, rfl⟩
  · by_cases h0 : L.length = 0
    · have H := hid (show 0 = limbE L by unfold limbE; rw [if_neg h4, if_pos (.inl h0)])
      rw [h0]
      go_enter Tryd.func97, Tryd.ntmps97
      go_wp2_with fail
      go_ret
      exact ⟨ret_int H.out, rfl⟩
    · obtain ⟨b, off, rfl, hc⟩ := hN.2.2 (by omega)
      have hc := hc (L.length - 1) (by omega)
      unfold lb at hc
      obtain ⟨d, hd⟩ : ∃ d, d = L.getD (L.length - 1) 0 := ⟨_, rfl⟩
      rw [← hd] at hc
      by_cases hd0 : d = 0
      · have H := hid (show 3 = limbE L by unfold limbE; rw [if_neg h4, if_neg (by rw [← hd]; omega)])
        rw [hd0] at hc
        rw [← hn] at h4 h0 hc hcap ⊢
        have hcast : ((n : Int) - 1).toNat = n - 1 := by omega
        clear hn hd hd0
        go_enter Tryd.func97, Tryd.ntmps97
        go_wp2_with fail
        go_ret
        exact ⟨ret_int H.out, rfl⟩
      · have H := hid (show 0 = limbE L by unfold limbE; rw [if_neg h4, if_pos (.inr (by rw [← hd]; exact hd0))])
        have hdb : ((d : Int) == 0) = false := by simp; omega
        rw [← hn] at h4 h0 hc hcap ⊢
        have hcast : ((n : Int) - 1).toNat = n - 1 := by omega
        clear hn hd hd0
        go_enter Tryd.func97, Tryd.ntmps97
        go_wp2_with fail
        go_ret
        exact ⟨ret_int H.out, rfl⟩
theorem limbs_cases (ao : Option Addr) (cap : Nat) (L : List Nat) (w : World) (hN : Ns .u32 w ao cap L) :
    (limbE L = 2 ∧ (400 : Int) < (L.length : Int)) ∨ (limbE L = 0 ∧ L.length = 0) ∨ (limbE L = 3 ∧ ∃ n b off, L.length = n ∧ ao = some ⟨b, off, none⟩ ∧ 0 < n ∧ n ≤ 400 ∧ w.cell? ⟨b, off + (n - 1), none⟩ = some (.int .u32 0)) ∨ (limbE L = 0 ∧ ∃ n b off d, L.length = n ∧ ao = some ⟨b, off, none⟩ ∧ 0 < n ∧ n ≤ 400 ∧ ((d == 0) = false) ∧ w.cell? ⟨b, off + (n - 1), none⟩ = some (.int .u32 d)) := by
  by_cases h4 : 400 < L.length
  · exact .inl ⟨by unfold limbE; rw [if_pos h4], by omega⟩
  · by_cases h0 : L.length = 0
    · exact .inr (.inl ⟨by unfold limbE; rw [if_neg h4, if_pos (.inl h0)], h0⟩)
    · obtain ⟨b, off, rfl, hc⟩ := hN.2.2 (by omega)
      have hc := hc (L.length - 1) (by omega)
      unfold lb at hc
      by_cases hd0 : L.getD (L.length - 1) 0 = 0
      · refine .inr (.inr (.inl ⟨by unfold limbE; rw [if_neg h4, if_neg (fun h => by rcases h with h | h; exact h0 h; exact h hd0)], _, b, off, rfl, rfl, by omega, by omega, ?_⟩))
        rw [hd0] at hc; exact hc
      · refine .inr (.inr (.inr ⟨by unfold limbE; rw [if_neg h4, if_pos (.inr hd0)], _, b, off, _, rfl, rfl, by omega, by omega, ?_, hc⟩))
        exact beq_eq_false_iff_ne.2 (fun h => hd0 (by omega))
theorem limbsRight1_any (g : Nat) (a0 : Option Addr) (c0 : Nat) (L : List Nat) (w : World) (k0 : w.cell? ⟨g, 0, none⟩ = some (.slice a0 L.length c0)) (h0 : Ns .u32 w a0 c0 L) :
    Calls Tryd.prog 26 #[.slice (some ⟨g, 0, none⟩) 1 1] w fun e w' => e = .returned (.int .i64 (limbE L)) ∧ w = w' := by
  have K0 := hid (limbs_cases a0 c0 L w h0)
  clear h0
  go_enter Tryd.func26, Tryd.ntmps26
  go_wp2_with fail
  go_loop [7] (fun s7 => ∃ i : Nat, s7 = .int .i64 (i : Int) ∧ i ≤ 1 ∧ (1 ≤ i → limbE L = 0)) (fun s7 => 1 - (intOf s7).toNat)
  case atStart => exact ⟨0, rfl, by omega, by omega⟩
  case round =>
    obtain ⟨i, rfl, hi, h1⟩ := hrel
    rcases (show i = 0 ∨ i = 1 by omega) with rfl | rfl
    · clear h1
      rcases K0.out with ⟨Ha, h4⟩ | ⟨Ha, h0⟩ | ⟨Ha, n, b, off, hl, ha, hn0, hn4, hc⟩ | ⟨Ha, n, b, off, d, hl, ha, hn0, hn4, hdb, hc⟩
      · have H := hid Ha
        clear Ha
        go_wp2_with fail
        go_ret
        exact ⟨ret_int (by exact H.out.symm), rfl⟩
      · have H := hid Ha
        clear Ha
        rw [h0] at k0
        go_wp2_with fail
        go_round
        case rel => exact ⟨1, by go_num, by omega, fun _ => H.out⟩
        case measure => simp [intOf]
      · have H := hid Ha
        clear Ha
        rw [hl, ha] at k0
        have hcast : ((n : Int) - 1).toNat = n - 1 := by omega
        go_wp2_with fail
        go_ret
        exact ⟨ret_int (by exact H.out.symm), rfl⟩
      · have H := hid Ha
        clear Ha
        rw [hl, ha] at k0
        have hcast : ((n : Int) - 1).toNat = n - 1 := by omega
        go_wp2_with fail
        go_round
        case rel => exact ⟨1, by go_num, by omega, fun _ => H.out⟩
        case measure => simp [intOf]
    · have g1 := hid (h1 (by omega))
      clear h1
      go_wp2_with fail
      go_ret
      exact ⟨ret_int (by rw [g1.out]), rfl⟩
theorem limbsRight2_any (g : Nat) (a0 a1 : Option Addr) (c0 c1 : Nat) (L M : List Nat) (w : World) (k0 : w.cell? ⟨g, 0, none⟩ = some (.slice a0 L.length c0)) (k1 : w.cell? ⟨g, 1, none⟩ = some (.slice a1 M.length c1)) (h0 : Ns .u32 w a0 c0 L) (h1 : Ns .u32 w a1 c1 M) :
    Calls Tryd.prog 26 #[.slice (some ⟨g, 0, none⟩) 2 2] w fun e w' => e = .returned (.int .i64 (limbE2 L M)) ∧ w = w' := by
  have K0 := hid (limbs_cases a0 c0 L w h0)
  have K1 := hid (limbs_cases a1 c1 M w h1)
  clear h0 h1
  go_enter Tryd.func26, Tryd.ntmps26
  go_wp2_with fail
  go_loop [7] (fun s7 => ∃ i : Nat, s7 = .int .i64 (i : Int) ∧ i ≤ 2 ∧ (1 ≤ i → limbE L = 0) ∧ (2 ≤ i → limbE M = 0)) (fun s7 => 2 - (intOf s7).toNat)
  case atStart => exact ⟨0, rfl, by omega, by omega, by omega⟩
  case round =>
    obtain ⟨i, rfl, hi, h1, h2⟩ := hrel
    rcases (show i = 0 ∨ i = 1 ∨ i = 2 by omega) with rfl | rfl | rfl
    · clear h1 h2
      rcases K0.out with ⟨Ha, h4⟩ | ⟨Ha, h0⟩ | ⟨Ha, n, b, off, hl, ha, hn0, hn4, hc⟩ | ⟨Ha, n, b, off, d, hl, ha, hn0, hn4, hdb, hc⟩
      · have H := hid Ha
        clear Ha
        go_wp2_with fail
        go_ret
        exact ⟨ret_int (by unfold limbE2; rw [H.out]; rfl), rfl⟩
      · have H := hid Ha
        clear Ha
        rw [h0] at k0
        go_wp2_with fail
        go_round
        case rel => exact ⟨1, by go_num, by omega, fun _ => H.out, by omega⟩
        case measure => simp [intOf]
      · have H := hid Ha
        clear Ha
        rw [hl, ha] at k0
        have hcast : ((n : Int) - 1).toNat = n - 1 := by omega
        go_wp2_with fail
        go_ret
        exact ⟨ret_int (by unfold limbE2; rw [H.out]; rfl), rfl⟩
      · have H := hid Ha
        clear Ha
        rw [hl, ha] at k0
        have hcast : ((n : Int) - 1).toNat = n - 1 := by omega
        go_wp2_with fail
        go_round
        case rel => exact ⟨1, by go_num, by omega, fun _ => H.out, by omega⟩
        case measure => simp [intOf]
    · have g1 := hid (h1 (by omega))
      clear h1 h2
      rcases K1.out with ⟨Ha, h4⟩ | ⟨Ha, h0⟩ | ⟨Ha, n, b, off, hl, ha, hn0, hn4, hc⟩ | ⟨Ha, n, b, off, d, hl, ha, hn0, hn4, hdb, hc⟩
      · have H := hid Ha
        clear Ha
        go_wp2_with fail
        go_ret
        exact ⟨ret_int (by unfold limbE2; rw [g1.out, H.out]; rfl), rfl⟩
      · have H := hid Ha
        clear Ha
        rw [h0] at k1
        go_wp2_with fail
        go_round
        case rel => exact ⟨2, by go_num, by omega, fun _ => g1.out, fun _ => H.out⟩
        case measure => simp [intOf]
      · have H := hid Ha
        clear Ha
        rw [hl, ha] at k1
        have hcast : ((n : Int) - 1).toNat = n - 1 := by omega
        go_wp2_with fail
        go_ret
        exact ⟨ret_int (by unfold limbE2; rw [g1.out, H.out]; rfl), rfl⟩
      · have H := hid Ha
        clear Ha
        rw [hl, ha] at k1
        have hcast : ((n : Int) - 1).toNat = n - 1 := by omega
        go_wp2_with fail
        go_round
        case rel => exact ⟨2, by go_num, by omega, fun _ => g1.out, fun _ => H.out⟩
        case measure => simp [intOf]
    · have g1 := hid (h1 (by omega))
      clear h1
      have g2 := hid (h2 (by omega))
      clear h2
      go_wp2_with fail
      go_ret
      exact ⟨ret_int (by unfold limbE2; rw [g1.out, g2.out]; rfl), rfl⟩
end Go.Proofs.YteaakbeemhmciaaDoor
