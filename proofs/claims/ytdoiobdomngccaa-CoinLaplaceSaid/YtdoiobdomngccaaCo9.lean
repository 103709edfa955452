/- The law's test of a draw (printed by co9.py). -/
import Derived.Test.YtdoiobdomngccaaCo7
set_option linter.unusedVariables false
set_option linter.unusedSimpArgs false
namespace Go.Ulp
open Go.RowKit
/-- the variable cb holds the bits from p on -/
def BT (w : World) (cb : Nat) (s : ByteArray) (p : Nat) : Prop :=
  p ≤ 8 * s.size ∧ s.size ≤ 64 ∧ ∃ ao cap, w.cell? ⟨cb, 0, none⟩ = some (.slice ao (8 * s.size - p) cap) ∧ Ns .i64 w ao cap ((tb s).drop p) ∧ SH ao cap
end Go.Ulp
namespace Go.Proofs.Ytdoiobdomngccaa
open Go.RowKit Go.Ulp
set_option linter.unusedVariables false
set_option linter.unusedSimpArgs false
set_option maxHeartbeats 1000000
set_option maxRecDepth 100000
theorem claw_below (n gn cb : Nat) (s : ByteArray) (p : Nat) (w : World) (hB : BT w cb s p) (hgn : w.cell? ⟨gn, 0, none⟩ = some (.int .i64 (n : Int))) (hR : 1 ≤ n ∧ n ≤ 1000000) :
    Calls Try.prog 32 #[.pointer (some ⟨gn, 0, none⟩), .pointer (some ⟨cb, 0, none⟩)] w (RetDN (DB ((tb s).drop p) n 0) w) := by
  obtain ⟨hp, hs, ao, cap, hc, hN, hsh⟩ := hB
  have BB := hid (drawBelow_any n ((tb s).drop p) (8 * s.size - p) ao cap w (by rw [List.length_drop, tb_len]) ((tb_bit s).drop p) hN hsh (by omega) (by omega) (by omega))
  clear hN
  go_enter Try.func32, Try.ntmps32
  go_wp2_with fail
  refine BB.out.mono ?_
  rintro e w2 ⟨r, hD, rfl, rfl⟩
  go_wp2_with fail
  go_ret2
  exact ⟨r, hD, rfl, rfl⟩
theorem drawn_below (n gn cb : Nat) (s : ByteArray) (at' t v k u : Int) (w : World) (hat : t = 0 → 0 ≤ at')
    (h1 : t ≠ 0 → v = 0 ∧ k = 0 ∧ u = t) (h2 : t = 0 → ∃ r, DB (tb s) n at'.toNat r ∧ v = vN r ∧ k = kQ r ∧ u = kE r) (hB : t = 0 → BT w cb s at'.toNat) (hR : t = 0 → 1 ≤ n ∧ n ≤ 1000000) (hgn : t = 0 → w.cell? ⟨gn, 0, none⟩ = some (.int .i64 (n : Int))) :
    Calls Try.prog 31 #[.int .i64 v, .int .i64 k, .int .i64 u, .int .i64 t, .int .i64 at', .func (.func 32) #[] #[.pointer (some ⟨gn, 0, none⟩), .pointer (some ⟨cb, 0, none⟩)]] w (fun e w' => e = .returned (.bool true) ∧ w = w') := by
  by_cases ht : t = 0
  · subst ht
    have hB := hB rfl
    have hR := hR rfl
    have hat := hat rfl
    have hgn := hgn rfl
    obtain ⟨r, hr, rfl, rfl, rfl⟩ := h2 rfl
    obtain ⟨p, rfl⟩ : ∃ p : Nat, at' = (p : Int) := ⟨at'.toNat, by omega⟩
    clear h1 h2
    have CL := hid (claw_below n gn cb s p w hB hgn hR)
    have hr' : DB (tb s) n p r := hr
    obtain ⟨hp, hs, _⟩ := id hB
    clear hB hr
    go_enter Try.func31, Try.ntmps31
    go_wp2_with fail
    refine CL.out.mono ?_
    rintro e w2 ⟨r', hD, rfl, rfl⟩
    have hS := hD.shift (by rw [tb_len]; exact hp)
    rw [Nat.add_zero] at hS
    have he := hr'.det hS
    clear hS hr'
    cases r' with
    | none =>
      have he : r = none := he
      subst he
      clear hD
      unfold vN kQ kE cN
      go_wp2_with fail
      go_ret
      exact ⟨rfl, rfl⟩
    | some xq =>
      obtain ⟨x, q⟩ := xq
      obtain ⟨z, hz⟩ : ∃ z, z = p + q := ⟨_, rfl⟩
      have he : r = some (x, z) := by rw [hz]; exact he
      subst he
      have hge := (hD.ge _ _ rfl).2.1
      rw [List.length_drop, tb_len] at hge
      have hsum : ((z : Int) == (p : Int) + (q : Int)) = true := by rw [beq_iff_eq]; omega
      clear hD
      unfold vN kQ kE cN
      clear hz
      go_wp2_with fail
      go_ret
      exact ⟨rfl, rfl⟩
  · obtain ⟨rfl, rfl, rfl⟩ := h1 ht
    have hne : (u == 0) = false := by simpa using ht
    clear h1 h2 hB hR hat hgn
    go_enter Try.func31, Try.ntmps31
    go_wp2_with fail
    go_ret
    exact ⟨rfl, rfl⟩
theorem _root_.Go.Ulp.DT.shift {B : List Nat} {b a p q : Nat} {r : Option (Bool × Nat)} (h : DT (B.drop p) b a q r) (hp : p ≤ B.length) : DT B b a (p + q) (sh p r) := by
  obtain ⟨r0, h0, rfl⟩ := h
  refine ⟨_, h0.shift hp, ?_⟩
  cases r0 with
  | none => rfl
  | some xq => rfl
theorem _root_.Go.Ulp.DT.det {B : List Nat} {b a p : Nat} {r r' : Option (Bool × Nat)} (h : DT B b a p r) (h' : DT B b a p r') : r = r' := by
  obtain ⟨r0, h0, rfl⟩ := h
  obtain ⟨r1, h1, rfl⟩ := h'
  rw [h0.det h1]
theorem claw_part (a b ga gb cb : Nat) (s : ByteArray) (p : Nat) (w : World) (hB : BT w cb s p) (hga : w.cell? ⟨ga, 0, none⟩ = some (.int .i64 (a : Int))) (hgb : w.cell? ⟨gb, 0, none⟩ = some (.int .i64 (b : Int))) (hR : 1 ≤ b ∧ b ≤ 1000000 ∧ a ≤ b) :
    Calls Try.prog 35 #[.pointer (some ⟨gb, 0, none⟩), .pointer (some ⟨cb, 0, none⟩), .pointer (some ⟨ga, 0, none⟩)] w (RetDB (DT ((tb s).drop p) b a 0) w) := by
  obtain ⟨hp, hs, ao, cap, hc, hN, hsh⟩ := hB
  have BB := hid (drawBelow_any b ((tb s).drop p) (8 * s.size - p) ao cap w (by rw [List.length_drop, tb_len]) ((tb_bit s).drop p) hN hsh (by omega) (by omega) (by omega))
  clear hN
  go_enter Try.func35, Try.ntmps35
  go_wp2_with fail
  refine BB.out.mono ?_
  rintro e w2 ⟨r, hD, rfl, rfl⟩
  cases r with
  | none =>
    unfold vN cN
    have HD := hid (show DT ((tb s).drop p) b a 0 none from ⟨none, hD, rfl⟩)
    clear hD
    by_cases h0 : (0 : Int) < (a : Int)
    all_goals
      go_wp2_with fail
      go_ret2
      exact ⟨none, HD.out, rfl, rfl⟩
  | some xq =>
    obtain ⟨x, q⟩ := xq
    unfold vN cN
    have HD := hid (show DT ((tb s).drop p) b a 0 (some (decide (x < a), q)) from ⟨some (x, q), hD, rfl⟩)
    have hge := hD.ge _ _ rfl
    rw [List.length_drop, tb_len] at hge
    clear hD
    by_cases h0 : x < a
    all_goals
      go_wp2_with fail
      go_ret2
      exact ⟨_, HD.out, by simp [vB, cN, h0], rfl⟩
theorem drawn_part (a b ga gb cb : Nat) (s : ByteArray) (at' t k u : Int) (v : Bool) (w : World) (hat : t = 0 → 0 ≤ at')
    (h1 : t ≠ 0 → v = false ∧ k = 0 ∧ u = t) (h2 : t = 0 → ∃ r, DT (tb s) b a at'.toNat r ∧ v = vB r ∧ k = kQ r ∧ u = kE r) (hB : t = 0 → BT w cb s at'.toNat) (hR : t = 0 → 1 ≤ b ∧ b ≤ 1000000 ∧ a ≤ b) (hga : t = 0 → w.cell? ⟨ga, 0, none⟩ = some (.int .i64 (a : Int))) (hgb : t = 0 → w.cell? ⟨gb, 0, none⟩ = some (.int .i64 (b : Int))) :
    Calls Try.prog 34 #[.bool v, .int .i64 k, .int .i64 u, .int .i64 t, .int .i64 at', .func (.func 35) #[] #[.pointer (some ⟨gb, 0, none⟩), .pointer (some ⟨cb, 0, none⟩), .pointer (some ⟨ga, 0, none⟩)]] w (fun e w' => e = .returned (.bool true) ∧ w = w') := by
  by_cases ht : t = 0
  · subst ht
    have hB := hB rfl
    have hR := hR rfl
    have hat := hat rfl
    have hga := hga rfl
    have hgb := hgb rfl
    obtain ⟨r, hr, rfl, rfl, rfl⟩ := h2 rfl
    obtain ⟨p, rfl⟩ : ∃ p : Nat, at' = (p : Int) := ⟨at'.toNat, by omega⟩
    clear h1 h2
    have CL := hid (claw_part a b ga gb cb s p w hB hga hgb hR)
    have hr' : DT (tb s) b a p r := hr
    obtain ⟨hp, hs, _⟩ := id hB
    clear hB hr
    go_enter Try.func34, Try.ntmps34
    go_wp2_with fail
    refine CL.out.mono ?_
    rintro e w2 ⟨r', hD, rfl, rfl⟩
    have hS := DT.shift hD (by rw [tb_len]; exact hp)
    rw [Nat.add_zero] at hS
    have he := hr'.det hS
    clear hS hr'
    cases r' with
    | none =>
      have he : r = none := he
      subst he
      clear hD
      unfold vB kQ kE cN
      go_wp2_with fail
      go_ret
      exact ⟨rfl, rfl⟩
    | some xq =>
      obtain ⟨x, q⟩ := xq
      obtain ⟨z, hz⟩ : ∃ z, z = p + q := ⟨_, rfl⟩
      have he : r = some (x, z) := by rw [hz]; exact he
      subst he
      have hge := DT.ge hD _ _ rfl
      rw [List.length_drop, tb_len] at hge
      have hsum : ((z : Int) == (p : Int) + (q : Int)) = true := by rw [beq_iff_eq]; omega
      clear hD
      unfold vB kQ kE cN
      clear hz
      go_wp2_with fail
      go_ret
      exact ⟨rfl, rfl⟩
  · obtain ⟨rfl, rfl, rfl⟩ := h1 ht
    have hne : (u == 0) = false := by simpa using ht
    clear h1 h2 hB hR hat hga hgb
    go_enter Try.func34, Try.ntmps34
    go_wp2_with fail
    go_ret
    exact ⟨rfl, rfl⟩
theorem claw_exp (a b ga gb cb : Nat) (s : ByteArray) (p : Nat) (w : World) (hB : BT w cb s p) (hga : w.cell? ⟨ga, 0, none⟩ = some (.int .i64 (a : Int))) (hgb : w.cell? ⟨gb, 0, none⟩ = some (.int .i64 (b : Int))) (hR : 1 ≤ b ∧ b ≤ 1000 ∧ a ≤ 1000 * b) :
    Calls Try.prog 36 #[.pointer (some ⟨ga, 0, none⟩), .pointer (some ⟨gb, 0, none⟩), .pointer (some ⟨cb, 0, none⟩)] w (RetDB (DE ((tb s).drop p) b a 0) w) := by
  obtain ⟨hp, hs, ao, cap, hc, hN, hsh⟩ := hB
  have BB := hid (drawExp_any a b ((tb s).drop p) (8 * s.size - p) ao cap w (by rw [List.length_drop, tb_len]) ((tb_bit s).drop p) hN hsh (by omega) (by omega) (by omega) (by omega))
  clear hN
  go_enter Try.func36, Try.ntmps36
  go_wp2_with fail
  refine BB.out.mono ?_
  rintro e w2 ⟨r, hD, rfl, rfl⟩
  go_wp2_with fail
  go_ret2
  exact ⟨r, hD, rfl, rfl⟩
theorem drawn_exp (a b ga gb cb : Nat) (s : ByteArray) (at' t k u : Int) (v : Bool) (w : World) (hat : t = 0 → 0 ≤ at')
    (h1 : t ≠ 0 → v = false ∧ k = 0 ∧ u = t) (h2 : t = 0 → ∃ r, DE (tb s) b a at'.toNat r ∧ v = vB r ∧ k = kQ r ∧ u = kE r) (hB : t = 0 → BT w cb s at'.toNat) (hR : t = 0 → 1 ≤ b ∧ b ≤ 1000 ∧ a ≤ 1000 * b) (hga : t = 0 → w.cell? ⟨ga, 0, none⟩ = some (.int .i64 (a : Int))) (hgb : t = 0 → w.cell? ⟨gb, 0, none⟩ = some (.int .i64 (b : Int))) :
    Calls Try.prog 34 #[.bool v, .int .i64 k, .int .i64 u, .int .i64 t, .int .i64 at', .func (.func 36) #[] #[.pointer (some ⟨ga, 0, none⟩), .pointer (some ⟨gb, 0, none⟩), .pointer (some ⟨cb, 0, none⟩)]] w (fun e w' => e = .returned (.bool true) ∧ w = w') := by
  by_cases ht : t = 0
  · subst ht
    have hB := hB rfl
    have hR := hR rfl
    have hat := hat rfl
    have hga := hga rfl
    have hgb := hgb rfl
    obtain ⟨r, hr, rfl, rfl, rfl⟩ := h2 rfl
    obtain ⟨p, rfl⟩ : ∃ p : Nat, at' = (p : Int) := ⟨at'.toNat, by omega⟩
    clear h1 h2
    have CL := hid (claw_exp a b ga gb cb s p w hB hga hgb hR)
    have hr' : DE (tb s) b a p r := hr
    obtain ⟨hp, hs, _⟩ := id hB
    clear hB hr
    go_enter Try.func34, Try.ntmps34
    go_wp2_with fail
    refine CL.out.mono ?_
    rintro e w2 ⟨r', hD, rfl, rfl⟩
    have hS := hD.shift (by rw [tb_len]; exact hp)
    rw [Nat.add_zero] at hS
    have he := hr'.det hS
    clear hS hr'
    cases r' with
    | none =>
      have he : r = none := he
      subst he
      clear hD
      unfold vB kQ kE cN
      go_wp2_with fail
      go_ret
      exact ⟨rfl, rfl⟩
    | some xq =>
      obtain ⟨x, q⟩ := xq
      obtain ⟨z, hz⟩ : ∃ z, z = p + q := ⟨_, rfl⟩
      have he : r = some (x, z) := by rw [hz]; exact he
      subst he
      have hge := (hD.ge _ _ rfl).2.1
      rw [List.length_drop, tb_len] at hge
      have hsum : ((z : Int) == (p : Int) + (q : Int)) = true := by rw [beq_iff_eq]; omega
      clear hD
      unfold vB kQ kE cN
      clear hz
      go_wp2_with fail
      go_ret
      exact ⟨rfl, rfl⟩
  · obtain ⟨rfl, rfl, rfl⟩ := h1 ht
    have hne : (u == 0) = false := by simpa using ht
    clear h1 h2 hB hR hat hga hgb
    go_enter Try.func34, Try.ntmps34
    go_wp2_with fail
    go_ret
    exact ⟨rfl, rfl⟩
theorem claw_count (a b ga gb cb : Nat) (s : ByteArray) (p : Nat) (w : World) (hB : BT w cb s p) (hga : w.cell? ⟨ga, 0, none⟩ = some (.int .i64 (a : Int))) (hgb : w.cell? ⟨gb, 0, none⟩ = some (.int .i64 (b : Int))) (hR : 1 ≤ a ∧ a ≤ 1000 ∧ 1 ≤ b ∧ b ≤ 1000) :
    Calls Try.prog 40 #[.pointer (some ⟨ga, 0, none⟩), .pointer (some ⟨gb, 0, none⟩), .pointer (some ⟨cb, 0, none⟩)] w (RetDN (DC ((tb s).drop p) a b 0 0) w) := by
  obtain ⟨hp, hs, ao, cap, hc, hN, hsh⟩ := hB
  have BB := hid (drawCount_any a b ((tb s).drop p) (8 * s.size - p) ao cap w (by rw [List.length_drop, tb_len]) ((tb_bit s).drop p) hN hsh (by omega) (by omega) (by omega) (by omega) (by omega))
  clear hN
  go_enter Try.func40, Try.ntmps40
  go_wp2_with fail
  refine BB.out.mono ?_
  rintro e w2 ⟨r, hD, rfl, rfl⟩
  go_wp2_with fail
  go_ret2
  exact ⟨r, hD, rfl, rfl⟩
theorem drawn_count (a b ga gb cb : Nat) (s : ByteArray) (at' t v k u : Int) (w : World) (hat : t = 0 → 0 ≤ at')
    (h1 : t ≠ 0 → v = 0 ∧ k = 0 ∧ u = t) (h2 : t = 0 → ∃ r, DC (tb s) a b 0 at'.toNat r ∧ v = vN r ∧ k = kQ r ∧ u = kE r) (hB : t = 0 → BT w cb s at'.toNat) (hR : t = 0 → 1 ≤ a ∧ a ≤ 1000 ∧ 1 ≤ b ∧ b ≤ 1000) (hga : t = 0 → w.cell? ⟨ga, 0, none⟩ = some (.int .i64 (a : Int))) (hgb : t = 0 → w.cell? ⟨gb, 0, none⟩ = some (.int .i64 (b : Int))) :
    Calls Try.prog 31 #[.int .i64 v, .int .i64 k, .int .i64 u, .int .i64 t, .int .i64 at', .func (.func 40) #[] #[.pointer (some ⟨ga, 0, none⟩), .pointer (some ⟨gb, 0, none⟩), .pointer (some ⟨cb, 0, none⟩)]] w (fun e w' => e = .returned (.bool true) ∧ w = w') := by
  by_cases ht : t = 0
  · subst ht
    have hB := hB rfl
    have hR := hR rfl
    have hat := hat rfl
    have hga := hga rfl
    have hgb := hgb rfl
    obtain ⟨r, hr, rfl, rfl, rfl⟩ := h2 rfl
    obtain ⟨p, rfl⟩ : ∃ p : Nat, at' = (p : Int) := ⟨at'.toNat, by omega⟩
    clear h1 h2
    have CL := hid (claw_count a b ga gb cb s p w hB hga hgb hR)
    have hr' : DC (tb s) a b 0 p r := hr
    obtain ⟨hp, hs, _⟩ := id hB
    clear hB hr
    go_enter Try.func31, Try.ntmps31
    go_wp2_with fail
    refine CL.out.mono ?_
    rintro e w2 ⟨r', hD, rfl, rfl⟩
    have hS := hD.shift (by rw [tb_len]; exact hp)
    rw [Nat.add_zero] at hS
    have he := hr'.det hS
    clear hS hr'
    cases r' with
    | none =>
      have he : r = none := he
      subst he
      clear hD
      unfold vN kQ kE cN
      go_wp2_with fail
      go_ret
      exact ⟨rfl, rfl⟩
    | some xq =>
      obtain ⟨x, q⟩ := xq
      obtain ⟨z, hz⟩ : ∃ z, z = p + q := ⟨_, rfl⟩
      have he : r = some (x, z) := by rw [hz]; exact he
      subst he
      have hge := (hD.ge _ _ rfl).2.1
      rw [List.length_drop, tb_len] at hge
      have hsum : ((z : Int) == (p : Int) + (q : Int)) = true := by rw [beq_iff_eq]; omega
      clear hD
      unfold vN kQ kE cN
      clear hz
      go_wp2_with fail
      go_ret
      exact ⟨rfl, rfl⟩
  · obtain ⟨rfl, rfl, rfl⟩ := h1 ht
    have hne : (u == 0) = false := by simpa using ht
    clear h1 h2 hB hR hat hga hgb
    go_enter Try.func31, Try.ntmps31
    go_wp2_with fail
    go_ret
    exact ⟨rfl, rfl⟩
theorem claw_laplace (a b ga gb cb : Nat) (s : ByteArray) (p : Nat) (w : World) (hB : BT w cb s p) (hga : w.cell? ⟨ga, 0, none⟩ = some (.int .i64 (a : Int))) (hgb : w.cell? ⟨gb, 0, none⟩ = some (.int .i64 (b : Int))) (hR : 1 ≤ a ∧ a ≤ 1000 ∧ 1 ≤ b ∧ b ≤ 1000) :
    Calls Try.prog 42 #[.pointer (some ⟨ga, 0, none⟩), .pointer (some ⟨gb, 0, none⟩), .pointer (some ⟨cb, 0, none⟩)] w (RetDI (DP ((tb s).drop p) a b 0) w) := by
  obtain ⟨hp, hs, ao, cap, hc, hN, hsh⟩ := hB
  have BB := hid (drawLaplace_any a b ((tb s).drop p) (8 * s.size - p) ao cap w (by rw [List.length_drop, tb_len]) ((tb_bit s).drop p) hN hsh (by omega) (by omega) (by omega) (by omega) (by omega))
  clear hN
  go_enter Try.func42, Try.ntmps42
  go_wp2_with fail
  refine BB.out.mono ?_
  rintro e w2 ⟨r, hD, rfl, rfl⟩
  go_wp2_with fail
  go_ret2
  exact ⟨r, hD, rfl, rfl⟩
theorem drawn_laplace (a b ga gb cb : Nat) (s : ByteArray) (at' t v k u : Int) (w : World) (hat : t = 0 → 0 ≤ at')
    (h1 : t ≠ 0 → v = 0 ∧ k = 0 ∧ u = t) (h2 : t = 0 → ∃ r, DP (tb s) a b at'.toNat r ∧ v = vI r ∧ k = kQ r ∧ u = kE r) (hB : t = 0 → BT w cb s at'.toNat) (hR : t = 0 → 1 ≤ a ∧ a ≤ 1000 ∧ 1 ≤ b ∧ b ≤ 1000) (hga : t = 0 → w.cell? ⟨ga, 0, none⟩ = some (.int .i64 (a : Int))) (hgb : t = 0 → w.cell? ⟨gb, 0, none⟩ = some (.int .i64 (b : Int))) :
    Calls Try.prog 31 #[.int .i64 v, .int .i64 k, .int .i64 u, .int .i64 t, .int .i64 at', .func (.func 42) #[] #[.pointer (some ⟨ga, 0, none⟩), .pointer (some ⟨gb, 0, none⟩), .pointer (some ⟨cb, 0, none⟩)]] w (fun e w' => e = .returned (.bool true) ∧ w = w') := by
  by_cases ht : t = 0
  · subst ht
    have hB := hB rfl
    have hR := hR rfl
    have hat := hat rfl
    have hga := hga rfl
    have hgb := hgb rfl
    obtain ⟨r, hr, rfl, rfl, rfl⟩ := h2 rfl
    obtain ⟨p, rfl⟩ : ∃ p : Nat, at' = (p : Int) := ⟨at'.toNat, by omega⟩
    clear h1 h2
    have CL := hid (claw_laplace a b ga gb cb s p w hB hga hgb hR)
    have hr' : DP (tb s) a b p r := hr
    obtain ⟨hp, hs, _⟩ := id hB
    clear hB hr
    go_enter Try.func31, Try.ntmps31
    go_wp2_with fail
    refine CL.out.mono ?_
    rintro e w2 ⟨r', hD, rfl, rfl⟩
    have hS := hD.shift (by rw [tb_len]; exact hp)
    rw [Nat.add_zero] at hS
    have he := hr'.det hS
    clear hS hr'
    cases r' with
    | none =>
      have he : r = none := he
      subst he
      clear hD
      unfold vI kQ kE cN
      go_wp2_with fail
      go_ret
      exact ⟨rfl, rfl⟩
    | some xq =>
      obtain ⟨x, q⟩ := xq
      obtain ⟨z, hz⟩ : ∃ z, z = p + q := ⟨_, rfl⟩
      have he : r = some (x, z) := by rw [hz]; exact he
      subst he
      have hge := hD.le _ _ rfl
      rw [List.length_drop, tb_len] at hge
      have hsum : ((z : Int) == (p : Int) + (q : Int)) = true := by rw [beq_iff_eq]; omega
      clear hD
      unfold vI kQ kE cN
      clear hz
      go_wp2_with fail
      go_ret
      exact ⟨rfl, rfl⟩
  · obtain ⟨rfl, rfl, rfl⟩ := h1 ht
    have hne : (u == 0) = false := by simpa using ht
    clear h1 h2 hB hR hat hga hgb
    go_enter Try.func31, Try.ntmps31
    go_wp2_with fail
    go_ret
    exact ⟨rfl, rfl⟩
end Go.Proofs.Ytdoiobdomngccaa
