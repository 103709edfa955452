/- Digits, ZText. -/
import Derived.Test.YthaelmnblgollaaDoorTx0
import Derived.Test.YthaelmnblgollaaDoorZt
import Derived.Laws.Concat
set_option linter.unusedVariables false
set_option linter.unusedSimpArgs false
namespace Go.Ulp
open Go.RowKit
/-- a string of these bytes -/
def bsOf (L : List UInt8) : ByteArray := ⟨L.toArray⟩
theorem bs_size (L : List UInt8) : (bsOf L).size = L.length := by simp [bsOf, ByteArray.size]
theorem bs_list (L : List UInt8) : (bsOf L).data.toList = L := by simp [bsOf]
theorem bs_toList (L : List UInt8) : (bsOf L).toList = L := by unfold bsOf; exact ByteArray.toList_mk L
theorem bs_app (A B : List UInt8) : bsOf A ++ bsOf B = bsOf (A ++ B) := by
  apply ByteArray.ext
  simp [bsOf]
theorem ret_bs {A B : List UInt8} (h : A = B) : Ending.returned (.string (bsOf A)) = .returned (.string (bsOf B)) := by rw [h]
theorem bs_inj {A B : List UInt8} (h : bsOf A = bsOf B) : A = B := by rw [← bs_list A, h, bs_list]
theorem add_bs {P : Program} (A B : List UInt8) (h : A.length + B.length ≤ 9223372036854775807) (w : World) : (Op.stringOp .add (bsOf A) (bsOf B)).run P w = .ok (.string (bsOf (A ++ B))) w := by
  rw [run_string_add_sum w _ _ (by rw [bs_size, bs_size]; exact h), bs_app]
theorem digit_str : ∀ d : Nat, d < 10 → (ByteArray.mk #[48, 49, 50, 51, 52, 53, 54, 55, 56, 57]).extract d (d + 1) = ⟨#[UInt8.ofNat (48 + d)]⟩ := by decide
/-- a digit's sign -/
def dch (d : Nat) : UInt8 := UInt8.ofNat (48 + d)
/-- the text of the lowest groups -/
def txt (L : List Nat) (i : Nat) : List UInt8 := if i = 0 then [] else if i < L.length then padz (4 * i) (decD (val 10000 (L.take i))) else decD (val 10000 (L.take i))
theorem txt_zero (L : List Nat) : txt L 0 = [] := if_pos rfl
theorem txt_step (L : List Nat) (hL : AllLt 10000 L) (hT : Trim L) (i : Nat) (hi : i < L.length) :
    txt L (i + 1) = (if i + 1 < L.length then padz 4 (decD (L.getD i 0)) else decD (L.getD i 0)) ++ txt L i := by
  have hd : L.getD i 0 < 10000 := hL.getD (by omega) i
  have hlt : (L.take i).length = i := by rw [List.length_take]; omega
  have hv : val 10000 (L.take i) < 10000 ^ i := by
    have h9 := val_lt 10000 (L.take i) (fun d h => hL d (List.mem_of_mem_take h))
    rwa [hlt] at h9
  have hs : val 10000 (L.take (i + 1)) = L.getD i 0 * 10000 ^ i + val 10000 (L.take i) := by
    rw [val_take_succ 10000 L i hi, Nat.mul_comm, Nat.add_comm]
  obtain ⟨d, hdd⟩ : ∃ d, d = L.getD i 0 := ⟨_, rfl⟩
  obtain ⟨b, hb⟩ : ∃ b, b = val 10000 (L.take i) := ⟨_, rfl⟩
  have e1 : txt L (i + 1) = if i + 1 < L.length then padz (4 * (i + 1)) (decD (val 10000 (L.take (i + 1)))) else decD (val 10000 (L.take (i + 1))) := by unfold txt; rw [if_neg (by omega)]
  have e2 : txt L i = if i = 0 then [] else padz (4 * i) (decD b) := by unfold txt; rw [if_pos hi, ← hb]
  rw [e1, e2, hs, ← hdd, ← hb]
  rw [← hdd] at hd
  rw [← hb] at hv
  by_cases hn : i + 1 < L.length
  · rw [if_pos hn, if_pos hn, pad_four d b i hd hv]
  · rw [if_neg hn, if_neg hn]
    have hd0 : 0 < d := by
      have hne : L ≠ [] := by intro h; rw [h] at hi; simp at hi
      have h9 := hT hne
      rw [List.getLast_eq_getElem] at h9
      rw [hdd, List.getD_eq_getElem?_getD, List.getElem?_eq_getElem hi]
      have e9 : L.length - 1 = i := by omega
      simp only [e9] at h9
      show 0 < L[i]
      omega
    by_cases h0 : i = 0
    · subst h0
      rw [if_pos rfl, Nat.pow_zero] at *
      rw [show b = 0 by omega]; simp
    · rw [if_neg h0, dec_four d b i hd0 hv (by omega)]
theorem txt_end (m : Nat) (h : 0 < m) : txt (decs m) (decs m).length = decD m := by
  have hl : 0 < (decs m).length := by
    rcases Nat.eq_zero_or_pos (decs m).length with h9 | h9
    · have := (decs_nil m).1 (List.length_eq_zero_iff.1 h9); omega
    · exact h9
  unfold txt
  rw [if_neg (by omega), if_neg (by omega), List.take_of_length_le (Nat.le_refl _)]
  congr 1
  exact val_digs 10000 (by omega) m
theorem txt_len (L : List Nat) (hL : AllLt 10000 L) (i : Nat) (hi : i ≤ L.length) : (txt L i).length ≤ 4 * i := by
  unfold txt
  have hlt : (L.take i).length = i := by rw [List.length_take]; omega
  have hv : val 10000 (L.take i) < 10000 ^ i := by
    have h9 := val_lt 10000 (L.take i) (fun d h => hL d (List.mem_of_mem_take h))
    rwa [hlt] at h9
  by_cases h0 : i = 0
  · subst h0; simp
  · have e : 10000 ^ i = 10 ^ (4 * i) := by rw [show (10000 : Nat) = 10 ^ 4 by decide, ← Nat.pow_mul]
    obtain ⟨j, hj⟩ : ∃ j, 4 * i = j + 1 := ⟨4 * i - 1, by omega⟩
    rw [e, hj] at hv
    have hl := decD_len j _ hv
    rw [if_neg h0]
    split
    · rw [padz_len]; omega
    · omega
def strSz (v : Value) : Nat := match v with | .string b => b.size | _ => 0
theorem strSz_bs (L : List UInt8) : strSz (.string (bsOf L)) = L.length := bs_size L
theorem add_nil {P : Program} (B : List UInt8) (h : B.length ≤ 1000000000000) (w : World) : (Op.stringOp .add ⟨#[48]⟩ (bsOf B)).run P w = .ok (.string (bsOf (48 :: B))) w := add_bs [48] B (by simp; omega) w
theorem add_dash {P : Program} (B : List UInt8) (h : B.length ≤ 1000000000000) (w : World) : (Op.stringOp .add ⟨#[45]⟩ (bsOf B)).run P w = .ok (.string (bsOf (45 :: B))) w := add_bs [45] B (by simp; omega) w
theorem pad_end (D : List UInt8) (j : Nat) (b : Bool) (h1 : D.length ≤ 4) (h2 : j = 0 ∨ (b = true ∧ j + D.length ≤ 4)) (h3 : ¬ (j + D.length < 4 ∧ b = true)) : List.replicate j 48 ++ D = if b = true then padz 4 D else D := by
  cases b
  · rcases h2 with rfl | ⟨h2, _⟩
    · rfl
    · cases h2
  · have hj : j = 4 - D.length := by
      have h4 : ¬ (j + D.length < 4) := fun h => h3 ⟨h, rfl⟩
      rcases h2 with h2 | ⟨_, h2⟩ <;> omega
    rw [if_pos rfl, hj]; rfl
/-- a number's text -/
def zTx (x : Int) : List UInt8 := if x < 0 then 45 :: decD x.natAbs else decD x.natAbs
end Go.Ulp
namespace Go.Proofs.YthaelmnblgollaaDoor
open Go.RowKit Go.Ulp
set_option linter.unusedVariables false
set_option linter.unusedSimpArgs false
set_option maxHeartbeats 1000000
set_option maxRecDepth 100000
theorem digits_any : ∀ (k n : Nat), n < 10 ^ (k + 1) → n < 4611686018427387904 → ∀ w, Calls Tryd.prog 58 #[.int .i64 (n : Int)] w fun e w' => e = .returned (.string (bsOf (decD n))) ∧ w = w' := by
  intro k
  induction k with
  | zero =>
    intro n hn hb w
    have h10 : (n : Int) < 10 := by simp at hn; omega
    have HD := hid (show decD n = [dch n] from decD_small (n := n) (by simpa using hn))
    have hSL : ∀ w, (Instr.slice 9 (.string ⟨#[48, 49, 50, 51, 52, 53, 54, 55, 56, 57]⟩) (some (.int .i64 ((n : Int) % 10))) (some (.int .i64 ((n : Int) % 10 + 1))) none).run Tryd.prog w = .ok (.string (bsOf [dch n])) w := fun w => by
      have e1 : ((n : Int) % 10).toNat = n := by omega
      have e2 : ((n : Int) % 10 + 1).toNat = n + 1 := by omega
      rw [run_slice_string w 9 _ _ _ _ _ Tryd.underlying9 (by omega) (by omega) (by show _ ≤ ((10 : Nat) : Int); omega), e1, e2, digit_str n (by omega)]
      rfl
    clear hn
    go_enter Tryd.func58, Tryd.ntmps58
    go_wp2_with fail
    go_ret
    exact ⟨ret_bs HD.out.symm, rfl⟩
  | succ k ih =>
    intro n hn hb w
    by_cases hs : n < 10
    · have h10 : (n : Int) < 10 := by omega
      have HD := hid (show decD n = [dch n] from decD_small (n := n) hs)
      have hSL : ∀ w, (Instr.slice 9 (.string ⟨#[48, 49, 50, 51, 52, 53, 54, 55, 56, 57]⟩) (some (.int .i64 ((n : Int) % 10))) (some (.int .i64 ((n : Int) % 10 + 1))) none).run Tryd.prog w = .ok (.string (bsOf [dch n])) w := fun w => by
        have e1 : ((n : Int) % 10).toNat = n := by omega
        have e2 : ((n : Int) % 10 + 1).toNat = n + 1 := by omega
        rw [run_slice_string w 9 _ _ _ _ _ Tryd.underlying9 (by omega) (by omega) (by show _ ≤ ((10 : Nat) : Int); omega), e1, e2, digit_str n (by omega)]
        rfl
      clear hn ih hs
      go_enter Tryd.func58, Tryd.ntmps58
      go_wp2_with fail
      go_ret
      exact ⟨ret_bs HD.out.symm, rfl⟩
    · have h10 : ¬ (n : Int) < 10 := by omega
      have HD := hid (show decD n = decD (n / 10) ++ [dch (n % 10)] from decD_big (n := n) hs)
      have hSL : ∀ w, (Instr.slice 9 (.string ⟨#[48, 49, 50, 51, 52, 53, 54, 55, 56, 57]⟩) (some (.int .i64 ((n : Int) % 10))) (some (.int .i64 ((n : Int) % 10 + 1))) none).run Tryd.prog w = .ok (.string (bsOf [dch (n % 10)])) w := fun w => by
        have e1 : ((n : Int) % 10).toNat = n % 10 := by omega
        have e2 : ((n : Int) % 10 + 1).toNat = n % 10 + 1 := by omega
        rw [run_slice_string w 9 _ _ _ _ _ Tryd.underlying9 (by omega) (by omega) (by show _ ≤ ((10 : Nat) : Int); omega), e1, e2, digit_str (n % 10) (by omega)]
        rfl
      have IHn := hid (show ∀ w, Calls Tryd.prog 58 #[.int .i64 ((n : Int) / 10)] w fun e w' => e = .returned (.string (bsOf (decD (n / 10)))) ∧ w = w' from fun w => by
        have e : (n : Int) / 10 = ((n / 10 : Nat) : Int) := by omega
        rw [e]
        exact ih (n / 10) (by rw [Nat.pow_succ] at hn; omega) (by omega) w)
      have hl := decD_len 18 (n / 10) (by omega)
      have hAB := add_bs (P := Tryd.prog) (decD (n / 10)) [dch (n % 10)] (by simp; omega)
      clear hn ih hs hl
      go_enter Tryd.func58, Tryd.ntmps58
      go_wp2_with (go_at_call 58; (with_reducible refine (IHn.out _).mono ?_); rintro en w1 ⟨rfl, rfl⟩)
      go_ret
      exact ⟨ret_bs HD.out.symm, rfl⟩
end Go.Proofs.YthaelmnblgollaaDoor
