/- The program's tape of bits. -/
import Derived.Test.YtdoiobdomngccaaZ1
import Derived.Test.YtdoiobdomngccaaCo0
set_option linter.unusedVariables false
set_option linter.unusedSimpArgs false
namespace Go.Ulp
open Go.RowKit
/-- block g is a tape -/
def TP (w : World) (g : Nat) (s : ByteArray) (p : Nat) (nn : Bool) : Prop :=
  w.cell? ⟨g, 0, none⟩ = some (.string s) ∧ w.cell? ⟨g, 1, none⟩ = some (.int .i64 (p : Int)) ∧ w.cell? ⟨g, 2, none⟩ = some (.bool nn) ∧ w.frozen? ⟨g, 1, none⟩ = false ∧ w.frozen? ⟨g, 2, none⟩ = false
theorem TP.set1 {w : World} {g : Nat} {s : ByteArray} {p : Nat} {nn : Bool} (h : TP w g s p nn) (q : Nat) : TP (w.setCell ⟨g, 1, none⟩ (.int .i64 (q : Int))) g s q nn := by
  obtain ⟨h1, h2, h3, h4, h5⟩ := h
  refine ⟨?_, ?_, ?_, ?_, ?_⟩
  · rw [World.cell?_setCell_other (h := fun e => by simp at e)]; exact h1
  · exact World.cell?_setCell_same (w := w) _ _ h2
  · rw [World.cell?_setCell_other (h := fun e => by simp at e)]; exact h3
  · rw [frozen_setCell]; exact h4
  · rw [frozen_setCell]; exact h5
theorem TP.set2 {w : World} {g : Nat} {s : ByteArray} {p : Nat} {nn : Bool} (h : TP w g s p nn) (b : Bool) : TP (w.setCell ⟨g, 2, none⟩ (.bool b)) g s p b := by
  obtain ⟨h1, h2, h3, h4, h5⟩ := h
  refine ⟨?_, ?_, ?_, ?_, ?_⟩
  · rw [World.cell?_setCell_other (h := fun e => by simp at e)]; exact h1
  · rw [World.cell?_setCell_other (h := fun e => by simp at e)]; exact h2
  · exact World.cell?_setCell_same (w := w) _ _ h3
  · rw [frozen_setCell]; exact h4
  · rw [frozen_setCell]; exact h5
theorem TP.drewN {w : World} {g : Nat} {s : ByteArray} {p : Nat} {nn : Bool} (h : TP w g s p nn) (n : Nat) : TP (w.drewN n) g s p nn := h
theorem TP.drew {w : World} {g : Nat} {s : ByteArray} {p : Nat} {nn : Bool} (h : TP w g s p nn) : TP w.drew g s p nn := h
def tb (s : ByteArray) : List Nat := bitsOf s.data.toList
theorem tb_len (s : ByteArray) : (tb s).length = 8 * s.size := by unfold tb; rw [bitsOf_len]; rfl
theorem tb_bit (s : ByteArray) : AllBit (tb s) := bitsOf_bit _
end Go.Ulp
namespace Go.Proofs.Ytdoiobdomngccaa
open Go.RowKit Go.Ulp
set_option linter.unusedVariables false
set_option linter.unusedSimpArgs false
set_option maxHeartbeats 1000000
set_option maxRecDepth 100000
theorem bit_none (g : Nat) (s : ByteArray) (p : Nat) (w : World) (h : TP w g s p true) :
    Calls Try.prog 128 #[.pointer (some ⟨g, 0, none⟩)] w fun e w' => e = .returned (.int .i64 0) ∧ TP w' g s p true ∧ Below g w w' := by
  obtain ⟨k0, k1, k2, f1, f2⟩ := id h
  go_enter Try.func128, Try.ntmps128
  go_wp2_with fail
  go_quiet (fail)
  go_wp2_with fail
  go_ret
  exact ⟨rfl, (h.drewN _).set2 _, (below_drewN (Below.refl _ _) _).setCell (by simp) _⟩
theorem bit_end (g : Nat) (s : ByteArray) (p : Nat) (w : World) (h : TP w g s p false) (hp : p = 8 * s.size) (hs : s.size ≤ 1000) :
    Calls Try.prog 128 #[.pointer (some ⟨g, 0, none⟩)] w fun e w' => e = .returned (.int .i64 0) ∧ TP w' g s p true ∧ Below g w w' := by
  obtain ⟨k0, k1, k2, f1, f2⟩ := id h
  have hb : ((p : Int) == 8 * (s.size : Int)) = true := by simp; omega
  have hb' : ((p : Int) == (s.size : Int) * 8) = true := by simp; omega
  have hw : IntKind.i64.wrap (8 * (s.size : Int)) = 8 * (s.size : Int) := by rw [IntWalk.i64_in _ (by omega)]
  have HP := hid hp
  clear hp
  go_enter Try.func128, Try.ntmps128
  go_wp2_with fail
  go_quiet (fail)
  go_wp2_with fail
  go_ret
  exact ⟨rfl, (h.drewN _).set2 _, (below_drewN (Below.refl _ _) _).setCell (by simp) _⟩
theorem bit_go (g : Nat) (s : ByteArray) (p : Nat) (w : World) (h : TP w g s p false) (hp : p < 8 * s.size) (hs : s.size ≤ 1000) :
    Calls Try.prog 128 #[.pointer (some ⟨g, 0, none⟩)] w fun e w' => e = .returned (.int .i64 (((tb s).getD p 0 : Nat) : Int)) ∧ TP w' g s (p + 1) false ∧ Below g w w' := by
  obtain ⟨k0, k1, k2, f1, f2⟩ := id h
  have hb : ((p : Int) == 8 * (s.size : Int)) = false := by simp; omega
  have hw : IntKind.i64.wrap (8 * (s.size : Int)) = 8 * (s.size : Int) := by rw [IntWalk.i64_in _ (by omega)]
  obtain ⟨i, hi⟩ : ∃ i, i = p / 8 := ⟨_, rfl⟩
  obtain ⟨j, hj⟩ : ∃ j, j = p % 8 := ⟨_, rfl⟩
  have e1 : (p : Int) / 8 = (i : Int) := by omega
  have e2 : (p : Int) % 8 = (j : Int) := by omega
  have e3 : p = 8 * i + j := by omega
  have i1 : (0 : Int) ≤ (i : Int) := by omega
  have i2 : (i : Int) < (s.size : Int) := by omega
  have j1 : j < 8 := by omega
  have HE := hid e3
  have t1 : (p : Int).tdiv 8 = (i : Int) := by rw [Int.tdiv_eq_ediv_of_nonneg (by omega)]; exact e1
  have t2 : (p : Int).tmod 8 = (j : Int) := by rw [Int.tmod_eq_emod_of_nonneg (by omega)]; exact e2
  have t3 : IntKind.i64.wrap (i : Int) = (i : Int) := by rw [IntWalk.i64_in _ (by omega)]
  have t4 : IntKind.i64.wrap (j : Int) = (j : Int) := by rw [IntWalk.i64_in _ (by omega)]
  have t5 : IntKind.i64.wrap (7 - (j : Int)) = 7 - (j : Int) := by rw [IntWalk.i64_in _ (by omega)]
  have t6 : (0 : Int) ≤ 7 - (j : Int) := by omega
  have t7 : (j : Int) ≤ 7 := by omega
  have t8 : i < s.size := by omega
  have HV := hid (show wrap64 (bits .and .u8 ((s[i].toNat : Int) / 2 ^ (7 - j)) 1) = (((tb s).getD p 0 : Nat) : Int) by
    have h1 := UInt8.toNat_lt s[i]
    have h2 : (s[i].toNat : Int) / 2 ^ (7 - j) = ((s[i].toNat / 2 ^ (7 - j) : Nat) : Int) := by rw [Int.natCast_ediv]; congr 1
    have h3 : s[i].toNat / 2 ^ (7 - j) < 256 := Nat.lt_of_le_of_lt (Nat.div_le_self _ _) (by simpa using h1)
    rw [h2, show (1 : Int) = ((1 : Nat) : Int) from rfl, u8_and_nat _ _ h3 (by omega), Nat.and_one_is_mod, IntWalk.wrap64_in _ (by omega), e3]
    unfold tb
    rw [bitsOf_at s.data.toList i j (by simpa using t8) j1]
    rfl)
  clear hi hj e3
  go_enter Try.func128, Try.ntmps128
  go_wp2_with fail
  go_quiet (fail)
  go_wp2_with fail
  go_quiet (fail)
  go_wp2_with fail
  go_ret
  refine ⟨ret_int ?_, (h.drewN _).set1 (p + 1), (below_drewN (Below.refl _ _) _).setCell (by simp) _⟩
  exact HV.out
end Go.Proofs.Ytdoiobdomngccaa
