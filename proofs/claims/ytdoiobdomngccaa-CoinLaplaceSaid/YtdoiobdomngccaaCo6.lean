/- The reference's tape; its checks. -/
import Derived.Test.YtdoiobdomngccaaCo5
import Derived.Test.YtdoiobdomngccaaCo3
import Derived.Test.YtdoiobdomngccaaFloat
set_option linter.unusedVariables false
set_option linter.unusedSimpArgs false
namespace Go.Ulp
open Go.RowKit
theorem bits8_take (c j : Nat) (hj : j < 8) : (bits8 c).take (j + 1) = (bits8 c).take j ++ [c / (128 / 2 ^ j) % 2] := by
  rcases (show j = 0 ∨ j = 1 ∨ j = 2 ∨ j = 3 ∨ j = 4 ∨ j = 5 ∨ j = 6 ∨ j = 7 by omega) with h | h | h | h | h | h | h | h <;> subst h <;> simp [bits8]
theorem bitsOf_take (l : List UInt8) (i : Nat) (h : i < l.length) : bitsOf (l.take (i + 1)) = bitsOf (l.take i) ++ bits8 l[i].toNat := by
  rw [List.take_succ_eq_append_getElem h, bitsOf_append]
  simp [bitsOf]
theorem Own.sh {base : Nat} {e : TypeId} {k : IntKind} {w : World} {v : Value} {L : List Nat} (h : Own base e k w v L) : ∃ ao cap, v = .slice ao L.length cap ∧ Ns k w ao cap L ∧ SH ao cap := by
  obtain ⟨ao, cap, h1, h2⟩ := h.ns
  refine ⟨ao, cap, h1, h2, ?_⟩
  subst h1
  rcases h.2 with ⟨hn, _⟩ | ⟨g, cap', cur, hv, _⟩
  · injection hn with e1 e2 e3; exact .inl ⟨e1, e3⟩
  · injection hv with e1 e2 e3; exact .inr ⟨_, _, e1⟩
/-- what is wrong with a tape -/
def tapeE (sz : Nat) (at' : Int) (ok : Bool) : Int := if 64 < sz then 2 else if 0 ≤ at' ∧ at' ≤ 8 * (sz : Int) ∧ ok = true then 0 else 1
end Go.Ulp
namespace Go.Proofs.Ytdoiobdomngccaa
open Go.RowKit Go.Ulp
set_option linter.unusedVariables false
set_option linter.unusedSimpArgs false
set_option maxHeartbeats 1000000
set_option maxRecDepth 100000
theorem tapeRight_any (s : ByteArray) (p : Int) (ok : Bool) (hs : s.size ≤ 9223372036854775807) (w : World) :
    Calls Try.prog 29 #[.string s, .int .i64 p, .bool ok] w fun e w' => e = .returned (.int .i64 (tapeE s.size p ok)) ∧ w = w' := by
  by_cases h64 : 64 < s.size
  · have H := hid (show 2 = tapeE s.size p ok by unfold tapeE; rw [if_pos h64])
    have h64' : (64 : Int) < (s.size : Int) := by omega
    go_enter Try.func29, Try.ntmps29
    go_wp2_with fail
    go_ret
    exact ⟨ret_int H.out, rfl⟩
  · have h64' : ¬ (64 : Int) < (s.size : Int) := by omega
    have hw : IntKind.i64.wrap (8 * (s.size : Int)) = 8 * (s.size : Int) := by rw [IntWalk.i64_in _ (by omega)]
    by_cases hp : 0 ≤ p ∧ p ≤ 8 * (s.size : Int)
    · have hd : decide (0 ≤ p ∧ p ≤ 8 * (s.size : Int)) = true := by simpa using hp
      have BT := hid (fun w => between_any p 0 (8 * (s.size : Int)) w)
      rw [hd] at BT
      have H := hid (show (if ok = true then (0 : Int) else 1) = tapeE s.size p ok by unfold tapeE; rw [if_neg h64]; cases ok <;> simp [hp])
      clear hd hp
      cases ok
      all_goals
        go_enter Try.func29, Try.ntmps29
        go_wp2_with (go_at_call 18; refine (BT.out _).mono ?_; rintro e w' ⟨rfl, rfl⟩)
        go_ret
        exact ⟨ret_int H.out, rfl⟩
    · have hd : decide (0 ≤ p ∧ p ≤ 8 * (s.size : Int)) = false := by simpa using hp
      have BT := hid (fun w => between_any p 0 (8 * (s.size : Int)) w)
      rw [hd] at BT
      have H := hid (show 1 = tapeE s.size p ok by unfold tapeE; rw [if_neg h64, if_neg (fun h => hp ⟨h.1, h.2.1⟩)])
      clear hd hp
      go_enter Try.func29, Try.ntmps29
      go_wp2_with (go_at_call 18; refine (BT.out _).mono ?_; rintro e w' ⟨rfl, rfl⟩)
      go_ret
      exact ⟨ret_int H.out, rfl⟩
theorem within_any (n lo hi : Int) (w : World) :
    Calls Try.prog 78 #[.int .i64 n, .int .i64 lo, .int .i64 hi] w fun e w' => e = .returned (.bool (decide (lo ≤ n ∧ n ≤ hi))) ∧ w = w' := by
  by_cases c1 : lo ≤ n <;> by_cases c2 : n ≤ hi
  all_goals
    go_enter Try.func78, Try.ntmps78
    go_wp2_with fail
    go_ret
    exact ⟨ret_bool (by simp [c1, c2]), rfl⟩
theorem tape_any (s : ByteArray) (hs : s.size ≤ 64) (w : World) :
    Calls Try.prog 30 #[.string s] w fun e w' => ∃ ao cap, e = .returned (.slice ao (tb s).length cap) ∧ Ns .i64 w' ao cap (tb s) ∧ SH ao cap ∧ Below w.heap.size w w' := by
  obtain ⟨l, hl⟩ : ∃ l, l = s.data.toList := ⟨_, rfl⟩
  have hll : l.length = s.size := by rw [hl]; rfl
  have HL := hid hl
  have HLL := hid hll
  have htl := hid (show (bitsOf l).length ≤ 512 by rw [bitsOf_len, hll]; omega)
  clear hl hll
  go_enter Try.func30, Try.ntmps30
  go_wp2_with fail
  go_loopw [3, 8] (fun s3 s8 wr => ∃ i : Nat, s8 = .int .i64 (i : Int) ∧ i ≤ s.size ∧ Own w.heap.size 3 .i64 wr s3 (bitsOf (l.take i)) ∧ Below w.heap.size w wr) (fun _ s8 _ => s.size - (intOf s8).toNat)
  case atStart => exact ⟨0, rfl, by omega, Own.nil, Below.refl _ _⟩
  case round =>
    obtain ⟨i, rfl, hi, hown, hbw⟩ := hrel
    by_cases his : i < s.size
    · obtain ⟨c, hc⟩ : ∃ c, c = s[i].toNat := ⟨_, rfl⟩
      have hc8 : c < 256 := by rw [hc]; have := UInt8.toNat_lt s[i]; simpa using this
      have hcl : bitsOf (l.take (i + 1)) = bitsOf (l.take i) ++ bits8 c := by
        rw [bitsOf_take l i (by rw [HLL.out]; exact his), hc]
        have := HL.out
        subst this; rfl
      have HCL := hid hcl
      have hc' : (s[i].toNat : Int) = (c : Int) := by rw [hc]
      have HW := hid hown
      have hbl : (bitsOf (l.take i)).length ≤ 512 := by rw [bitsOf_len, List.length_take]; omega
      have HBL := hid hbl
      clear hcl hown hbl hc
      go_wp2_with fail
      go_loopw [3, 5] (fun s3 s5 wx => ∃ (j k : Nat), s5 = .int .i64 (k : Int) ∧ j ≤ 8 ∧ k = 128 / 2 ^ j ∧ Own w.heap.size 3 .i64 wx s3 (bitsOf (l.take i) ++ (bits8 c).take j) ∧ Below w.heap.size w wx) (fun _ s5 _ => (intOf s5).toNat)
      case atStart => exact ⟨0, 128, rfl, by omega, by simp, by rw [List.take_zero, List.append_nil]; exact HW.out, hbw⟩
      case round =>
        obtain ⟨j, k, rfl, hj, hk, hown, hbx⟩ := hrel
        have HK := hid hk
        by_cases hj8 : j < 8
        · have hkp : 0 < k ∧ k ≤ 128 := by
            rcases (show j = 0 ∨ j = 1 ∨ j = 2 ∨ j = 3 ∨ j = 4 ∨ j = 5 ∨ j = 6 ∨ j = 7 by omega) with h | h | h | h | h | h | h | h <;> subst h <;> simp at hk <;> omega
          have hk2 : 128 / 2 ^ (j + 1) = k / 2 := by rw [hk, Nat.pow_succ, Nat.div_div_eq_div_mul]
          have HK2 := hid hk2
          obtain ⟨d, hd⟩ : ∃ d, d = c / k % 2 := ⟨_, rfl⟩
          obtain ⟨y, hy⟩ : ∃ y, y = c / k := ⟨_, rfl⟩
          have ey : (c : Int) / (k : Int) = (y : Int) := by rw [hy]; exact (Int.natCast_ediv _ _).symm
          have hy2 : y < 256 := by rw [hy]; exact Nat.lt_of_le_of_lt (Nat.div_le_self _ _) hc8
          rw [← hy] at hd
          have ed : (y : Int) % 2 = (d : Int) := by rw [hd]; omega
          have eyd : (y : Int).tmod 2 = (d : Int) := by rw [Int.tmod_eq_emod_of_nonneg (by omega)]; exact ed
          have HD := hid hd
          obtain ⟨hkp1, hkp2⟩ := hkp
          have hln : (bitsOf (l.take i) ++ (bits8 c).take j).length ≤ 8796093022207 := by
            rw [List.length_append, List.length_take, bits8_len]; have := HBL.out; omega
          have HDY := hid (show d = c / k % 2 by rw [hd, hy])
          clear hk hk2 hd hy
          go_wp2_with (at_builtin; refine wpList_push ei_int (by omega) rfl _ _ rfl w.heap.size (bitsOf (l.take i) ++ (bits8 c).take j) d _ rfl (Own.alloc hown _) ⟨wr.heap.size, 0, none⟩ rfl (cell_push _ _ _ _ _ (by first | exact ed | exact eyd | simp [ed, eyd])) hln (by simp; have := hbx.size; omega) ?_; intro v1 w1 hown1 hb1; obtain ⟨ao1, nn1, cap1, rfl⟩ := hown1.slice)
          go_roundw
          case rel => exact ⟨j + 1, k / 2, by go_num, by omega, HK2.out.symm, by rw [bits8_take c j hj8, ← HK.out, ← HDY.out, ← List.append_assoc]; exact hown1, (hbx.alloc hbx.size _).trans hb1⟩
          case measure => simp [intOf]; omega
        · obtain rfl : j = 8 := by omega
          have hk0 : k = 0 := by rw [hk]
          have hfin : (bitsOf (l.take i) ++ (bits8 c).take 8) = bitsOf (l.take (i + 1)) := by rw [HCL.out]; rfl
          rw [hfin] at hown
          obtain ⟨ao1, nn1, cap1, rfl⟩ := hown.slice
          subst hk0
          clear hk hfin HK
          go_wp2_with fail
          go_roundw
          case rel => exact ⟨i + 1, by go_num, by omega, hown, hbx⟩
          case measure => simp [intOf]; omega
    · obtain rfl : i = s.size := by omega
      have ht : bitsOf (l.take s.size) = tb s := by
        rw [← HLL.out, List.take_length]; unfold tb; rw [← HL.out]
      rw [ht] at hown
      obtain ⟨ao1, cap1, rfl, hN, hsh⟩ := hown.sh
      clear ht
      go_wp2_with fail
      go_ret
      exact ⟨_, _, rfl, hN, hsh, hbw⟩
end Go.Proofs.Ytdoiobdomngccaa
