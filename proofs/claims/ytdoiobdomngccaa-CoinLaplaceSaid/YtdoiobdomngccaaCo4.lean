/- The reference's draws from a list of bits: below. -/
import Derived.Test.YtdoiobdomngccaaZ8
import Derived.Test.YtdoiobdomngccaaCo0
import Derived.Deep.DeepCutAuto
import Derived.Deep.CutBlock
set_option linter.unusedVariables false
set_option linter.unusedSimpArgs false
namespace Go.Ulp
open Go.RowKit
theorem bv_drop (B : List Nat) (p q k : Nat) : bv (B.drop p) q k = bv B (p + q) k := by unfold bv; rw [List.drop_drop]
/-- nil, or a slice of a block -/
def SH (ao : Option Addr) (cap : Nat) : Prop := (ao = none ∧ cap = 0) ∨ ∃ b off, ao = some ⟨b, off, none⟩
/-- where a slice lies from a place on -/
def cutAo (b off cap k : Nat) : Option Addr := if cap = k then some ⟨b, off, none⟩ else some ⟨b, off + k, none⟩
theorem Ns.cut {w : World} {b off cap : Nat} {L : List Nat} (h : Ns .i64 w (some ⟨b, off, none⟩) cap L) (k : Nat) (hk : k ≤ L.length) : Ns .i64 w (cutAo b off cap k) (cap - k) (L.drop k) := by
  unfold cutAo
  split
  · rename_i e
    have : L.drop k = [] := by rw [List.drop_eq_nil_iff]; have := h.1; omega
    rw [this]; exact Ns.nil' _ _ (by have := h.2.1; omega)
  · exact h.drop k hk
theorem SH.cut (b off cap k : Nat) : SH (cutAo b off cap k) (cap - k) := by unfold cutAo; split <;> exact .inr ⟨_, _, rfl⟩
theorem AllBit.drop {L : List Nat} (h : AllBit L) (k : Nat) : AllBit (L.drop k) := fun b hb => h b (List.mem_of_mem_drop hb)
def vN : Option (Nat × Nat) → Int | none => 0 | some (x, _) => (x : Int)
def vI : Option (Int × Nat) → Int | none => 0 | some (x, _) => x
def vB : Option (Bool × Nat) → Bool | none => false | some (x, _) => x
def cN {α : Type} : Option (α × Nat) → Int | none => -1 | some (_, q) => (q : Int)
end Go.Ulp
namespace Go.Proofs.Ytdoiobdomngccaa
open Go.RowKit Go.Ulp
set_option linter.unusedVariables false
set_option linter.unusedSimpArgs false
set_option maxHeartbeats 1000000
set_option maxRecDepth 100000
def RetDN (D : Option (Nat × Nat) → Prop) (w : World) (e : Ending) (w' : World) : Prop := ∃ r, D r ∧ e = .returned (.tuple #[.int .i64 (vN r), .int .i64 (cN r)]) ∧ w = w'
theorem drawBelow_any (n : Nat) (L : List Nat) (m : Nat) (ao : Option Addr) (cap : Nat) (w : World) (hm : m = L.length) (hbit : AllBit L) (hN : Ns .i64 w ao cap L) (hsh : SH ao cap) (hL : m ≤ 8000) (hn : 1 ≤ n) (hn2 : n ≤ 1125899906842624) :
    Calls Try.prog 33 #[.int .i64 (n : Int), .slice ao m cap] w (RetDN (DB L n 0) w) := by
  have hk := kn_le60 n hn (by omega)
  have HM := hid hm
  have HB := hid hbit
  have hcap := hN.1
  have hcap2 := hN.2.1
  rw [← hm] at hcap
  unfold maxLen at hcap2
  have HN := hid hN
  clear hm hbit hN
  rcases hsh with ⟨rfl, rfl⟩ | ⟨b, off, rfl⟩
  all_goals
    go_enter Try.func33, Try.ntmps33
    go_upto_block 0 with fail
    go_cut [6, 7] (fun s6 _ wx => s6 = .int .i64 (kn n : Int) ∧ wx = w)
    case first => as_aux_lemma =>
      go_wp2_with fail
      go_loop [6, 7] (fun s6 s7 => ∃ j p : Nat, s6 = .int .i64 (j : Int) ∧ s7 = .int .i64 (p : Int) ∧ p = 2 ^ j ∧ (j = 0 ∨ p < 2 * n) ∧ p ≤ 2251799813685248 ∧ j ≤ p) (fun _ s7 => 2 * n - (intOf s7).toNat)
      case atStart => exact ⟨0, 1, rfl, rfl, rfl, by omega, by omega, by omega⟩
      case round =>
        obtain ⟨j, p, rfl, rfl, hp, hj, hp2, hjp⟩ := hrel
        have HP := hid hp
        have hp1 : 1 ≤ p := by rw [hp]; exact Nat.one_le_two_pow
        clear hp
        by_cases hlt : p < n
        · go_wp2_with fail
          go_round
          case rel => exact ⟨j + 1, p * 2, by go_num, by go_num, by rw [HP.out, Nat.pow_succ], by omega, by omega, by omega⟩
          case measure => simp [intOf]; omega
        · have hkn := hid (kn_eq n j (by rw [← HP.out]; omega) (by
            rcases hj with h | h
            · exact .inl h
            · rcases Nat.eq_zero_or_pos j with h0 | h0
              · exact .inl h0
              · right
                have h9 := HP.out
                rw [show j = (j - 1) + 1 by omega, Nat.pow_succ] at h9
                omega) hn)
          go_wp2_with fail
          go_meet
          exact ⟨by rw [hkn.out], rfl⟩
    case rest =>
      obtain ⟨rfl, hwc⟩ := hcut
      subst hwc
      go_wp2_with fail
      go_loop [8] (fun s8 => ∃ q : Nat, s8 = .int .i64 (q : Int) ∧ q ≤ m ∧ ∀ r, DB L n q r → DB L n 0 r) (fun s8 => m - (intOf s8).toNat)
      case atStart => exact ⟨0, rfl, by omega, fun r hr => hr⟩
      case round =>
        obtain ⟨q, rfl, hqm, hfw⟩ := hrel
        have HF := hid hfw
        clear hfw
        by_cases hlen : m < q + kn n
        · have HD := hid (HF.out _ (.short (by rw [← HM.out]; exact hlen)))
          go_wp2_with fail
          go_ret2
          exact ⟨none, HD.out, rfl, rfl⟩
        · by_cases hk0 : kn n = 0
          · have hz : bv L q (kn n) = 0 := by rw [hk0]; exact bv_zero _ _
            have HD := hid (HF.out _ (.hit (by rw [← HM.out]; omega) (by rw [hz]; omega)))
            rw [hz, hk0, Nat.add_zero] at HD
            rw [hk0]
            have hz0 : (0 : Int) < (n : Int) := by omega
            go_wp2_with fail
            all_goals
              go_loop [9, 35] (fun s9 s35 => s9 = .int .i64 0 ∧ s35 = .int .i64 0) (fun _ _ => 0)
              case atStart => exact ⟨rfl, rfl⟩
              case round =>
                obtain ⟨rfl, rfl⟩ := hrel
                go_wp2_with fail
                go_ret2
                exact ⟨some (0, q), HD.out, rfl, rfl⟩
          · first
            | (exfalso; omega)
            | (have hcq : ¬ cap = q := by omega
               have h1 : (q : Int) + (kn n : Int) ≤ (m : Int) := by omega
               have hkp : 0 < kn n := by omega
               go_wp2_with fail
               go_loop [9, 35] (fun s9 s35 => ∃ i x : Nat, s35 = .int .i64 (i : Int) ∧ i ≤ kn n ∧ s9 = .int .i64 (x : Int) ∧ x = bv L q i ∧ x < 2 ^ i) (fun _ s35 => kn n - (intOf s35).toNat)
               case atStart => exact ⟨0, 0, rfl, by omega, rfl, rfl, by omega⟩
               case round =>
                 obtain ⟨i, x, rfl, hi, rfl, hx, hx2⟩ := hrel
                 have HX := hid hx
                 have HX2 := hid hx2
                 clear hx
                 by_cases hik : i < kn n
                 · have hxs : x < 576460752303423488 := Nat.lt_of_lt_of_le hx2 (Nat.le_trans (Nat.pow_le_pow_right (by omega) (show i ≤ 59 by omega)) (by decide))
                   obtain ⟨b', off', he, hcl⟩ := HN.out.2.2 (by rw [← HM.out]; omega)
                   injection he with he
                   injection he with he1 he2
                   subst he1 he2
                   obtain ⟨d, hd⟩ : ∃ d, d = L.getD (q + i) 0 := ⟨_, rfl⟩
                   have hc := hcl (q + i) (by rw [← HM.out]; omega)
                   unfold lb at hc
                   rw [← hd, ← Nat.add_assoc] at hc
                   have hd2 : d < 2 := by rw [hd]; exact bit_getD _ HB.out _
                   have HD := hid hd
                   clear hd hcl hx2
                   go_wp2_with fail
                   go_round
                   case rel => exact ⟨i + 1, 2 * x + d, by go_num, by omega, by go_num, by rw [bv_succ _ _ _ (by rw [← HM.out]; omega), ← HX.out, ← HD.out], by rw [Nat.pow_succ]; have := HX2.out; omega⟩
                   case measure => simp [intOf]; omega
                 · obtain rfl : i = kn n := by omega
                   clear hx2
                   by_cases hxn : x < n
                   · have HD := hid (HF.out _ (.hit (by rw [← HM.out]; omega) (by rw [← HX.out]; exact hxn)))
                     rw [← HX.out] at HD
                     go_wp2_with fail
                     go_ret2
                     exact ⟨_, HD.out, rfl, rfl⟩
                   · have HD := hid (fun r hr => HF.out r (.miss (by rw [← HM.out]; omega) (by rw [← HX.out]; omega) hr))
                     go_wp2_with fail
                     go_round
                     case rel => exact ⟨q + kn n, by go_num, by omega, HD.out⟩
                     case measure => simp [intOf]; omega)
end Go.Proofs.Ytdoiobdomngccaa
