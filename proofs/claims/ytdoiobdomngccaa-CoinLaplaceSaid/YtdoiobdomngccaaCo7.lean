/- The program's samples (printed by co7.py). -/
import Derived.Test.YtdoiobdomngccaaCo6
set_option linter.unusedVariables false
set_option linter.unusedSimpArgs false
namespace Go.Ulp
open Go.RowKit
/-- where the tape stands behind a draw; what is said -/
def kQ {α : Type} : Option (α × Nat) → Int | none => 0 | some (_, q) => (q : Int)
def kE {α : Type} : Option (α × Nat) → Int | none => 4 | some _ => 0
/-- a draw with a test behind it -/
def DT (B : List Nat) (b a p : Nat) (r : Option (Bool × Nat)) : Prop := ∃ r0, DB B b p r0 ∧ r = r0.map (fun xq => (decide (xq.1 < a), xq.2))
theorem DT.ge {B : List Nat} {b a p : Nat} {r : Option (Bool × Nat)} (h : DT B b a p r) : ∀ x q, r = some (x, q) → q ≤ B.length := by
  intro x q e
  obtain ⟨r0, h0, rfl⟩ := h
  cases r0 with
  | none => cases e
  | some y => obtain ⟨y, z⟩ := y; injection e with e; injection e with e1 e2; have := h0.ge _ _ rfl; omega
theorem DP.le {B : List Nat} {a b p : Nat} {r : Option (Int × Nat)} (h : DP B a b p r) : ∀ x q, r = some (x, q) → q ≤ B.length := by
  induction h with
  | none => intro x q e; cases e
  | short => intro x q e; cases e
  | plus h1 h2 h3 => intro x q e; injection e with e; injection e with e1 e2; omega
  | minus h1 h2 h3 h4 => intro x q e; injection e with e; injection e with e1 e2; omega
  | again h1 h2 h3 _ ih => exact ih
theorem TP.made (s : ByteArray) (p : Nat) (w : World) (t : TypeId) : TP (w.alloc (.cells #[.string s, .int .i64 (p : Int), .bool false] t)) w.heap.size s p false := by
  refine ⟨?_, ?_, ?_, ?_, ?_⟩
  · rw [World.cell?_alloc_at (hn := rfl)]; rfl
  · rw [World.cell?_alloc_at (hn := rfl)]; rfl
  · rw [World.cell?_alloc_at (hn := rfl)]; rfl
  · unfold World.frozen?; rw [heap_alloc_new]; simp
  · unfold World.frozen?; rw [heap_alloc_new]; simp
end Go.Ulp
namespace Go.Proofs.Ytdoiobdomngccaa
open Go.RowKit Go.Ulp
set_option linter.unusedVariables false
set_option linter.unusedSimpArgs false
set_option maxHeartbeats 1000000
set_option maxRecDepth 100000
def SaidN (t : Int) (D : Option (Nat × Nat) → Prop) (w : World) (e : Ending) (w' : World) : Prop :=
  ∃ v k u : Int, e = .returned (.tuple #[.int .i64 v, .int .i64 k, .int .i64 u]) ∧ Below w.heap.size w w' ∧ (t ≠ 0 → v = 0 ∧ k = 0 ∧ u = t) ∧ (t = 0 → ∃ r, D r ∧ v = vN r ∧ k = kQ r ∧ u = kE r)
def SaidI (t : Int) (D : Option (Int × Nat) → Prop) (w : World) (e : Ending) (w' : World) : Prop :=
  ∃ v k u : Int, e = .returned (.tuple #[.int .i64 v, .int .i64 k, .int .i64 u]) ∧ Below w.heap.size w w' ∧ (t ≠ 0 → v = 0 ∧ k = 0 ∧ u = t) ∧ (t = 0 → ∃ r, D r ∧ v = vI r ∧ k = kQ r ∧ u = kE r)
def SaidB (t : Int) (D : Option (Bool × Nat) → Prop) (w : World) (e : Ending) (w' : World) : Prop :=
  ∃ (v : Bool) (k u : Int), e = .returned (.tuple #[.bool v, .int .i64 k, .int .i64 u]) ∧ Below w.heap.size w w' ∧ (t ≠ 0 → v = false ∧ k = 0 ∧ u = t) ∧ (t = 0 → ∃ r, D r ∧ v = vB r ∧ k = kQ r ∧ u = kE r)
theorem part2_any (g : Nat) (s : ByteArray) (a b p : Nat) (w : World) (h : TP w g s p false) (hp : p ≤ 8 * s.size) (hs : s.size ≤ 1000) (hb1 : 1 ≤ b) (hb2 : b ≤ 1152921504606846976) :
    Calls Try.prog 83 #[.pointer (some ⟨g, 0, none⟩), .int .i64 (a : Int), .int .i64 (b : Int)] w (DrawsB g s p (DT (tb s) b a p) w) := by
  refine (part_any g s a b p w h hp hs hb1 hb2).mono ?_
  rintro e w2 ⟨v, rfl, r, hD, hO, hb⟩
  refine ⟨v, rfl, _, ⟨r, hD, rfl⟩, ?_, hb⟩
  cases r with
  | none => exact hO
  | some xq => exact hO
theorem lam_below (n g cn : Nat) (s : ByteArray) (p : Nat) (w : World) (h : TP w g s p false) (hcn : w.cell? ⟨cn, 0, none⟩ = some (.int .i64 (n : Int))) (hp : p ≤ 8 * s.size) (hs : s.size ≤ 1000) (hn : 1 ≤ n) (hn2 : n ≤ 1000000) :
    Calls Try.prog 79 #[.pointer (some ⟨g, 0, none⟩), .pointer (some ⟨cn, 0, none⟩)] w (DrawsN g s p (DB (tb s) n p) w) := by
  have BB := hid (below_any g s n p w h hp hs hn (by omega))
  clear h
  go_enter Try.func79, Try.ntmps79
  go_wp2_with fail
  refine BB.out.mono ?_
  rintro e w2 ⟨v, rfl, r, hD, hO, hb⟩
  go_wp2_with fail
  go_ret
  exact ⟨_, rfl, r, hD, hO, hb⟩
theorem sample_below (n cn : Nat) (s : ByteArray) (at' : Int) (ok : Bool) (w : World) (hok : ok = true → 1 ≤ n ∧ n ≤ 1000000) (hs : s.size ≤ 9223372036854775807) (hcn : ok = true → w.cell? ⟨cn, 0, none⟩ = some (.int .i64 (n : Int))) :
    Calls Try.prog 77 #[.string s, .int .i64 at', .bool ok, .func (.func 79) #[] #[.pointer (some ⟨cn, 0, none⟩)]] w (SaidN (tapeE s.size at' ok) (DB (tb s) n at'.toNat) w) := by
  by_cases h64 : 64 < s.size
  · have H := hid (show tapeE s.size at' ok = 2 by unfold tapeE; rw [if_pos h64])
    have h64' : (64 : Int) < (s.size : Int) := by omega
    go_enter Try.func77, Try.ntmps77
    go_wp2_with fail
    go_ret3
    exact ⟨0, 0, 2, rfl, Below.refl _ _, fun _ => ⟨rfl, rfl, H.out.symm⟩, fun h => by rw [H.out] at h; cases h⟩
  · have h64' : ¬ (64 : Int) < (s.size : Int) := by omega
    have hw : IntKind.i64.wrap (8 * (s.size : Int)) = 8 * (s.size : Int) := by rw [IntWalk.i64_in _ (by omega)]
    by_cases hg : (0 ≤ at' ∧ at' ≤ 8 * (s.size : Int)) ∧ ok = true
    · obtain ⟨⟨h0, h8⟩, rfl⟩ := hg
      have H := hid (show tapeE s.size at' true = 0 by unfold tapeE; rw [if_neg h64, if_pos ⟨h0, h8, rfl⟩])
      obtain ⟨p, rfl⟩ : ∃ p : Nat, at' = (p : Int) := ⟨at'.toNat, by omega⟩
      have hn := hok rfl
      have hp8 : p ≤ 8 * s.size := by omega
      have hcn := hcn rfl
      have lcn := World.block_lt_of_cell? w _ hcn
      have hcn1 : (w.alloc (.cells #[.string s, .int .i64 (p : Int), .bool false] 145)).cell? ⟨cn, 0, none⟩ = some (.int .i64 (n : Int)) := ((below_alloc w _).cell lcn).trans hcn
      clear hok
      go_enter Try.func77, Try.ntmps77
      go_wp2_with fail
      refine ((lam_below n w.heap.size cn s p _ (TP.made s p w _) hcn1 hp8 (by omega) hn.1 hn.2)).mono ?_
      rintro e w2 ⟨v, rfl, r, hD, hO, hb⟩
      cases r with
      | none =>
        obtain ⟨q, hq, hT⟩ := hO
        obtain ⟨k0, k1, k2, f1, f2⟩ := id hT
        have HD := hid hD
        clear hD hT
        go_wp2_with fail
        go_ret3
        exact ⟨0, 0, 4, rfl, (below_alloc w _).trans hb, fun h => absurd H.out h, fun _ => ⟨none, HD.out, rfl, rfl, rfl⟩⟩
      | some xq =>
        obtain ⟨x, q⟩ := xq
        obtain ⟨rfl, hT⟩ := hO
        obtain ⟨k0, k1, k2, f1, f2⟩ := id hT
        have HD := hid hD
        clear hD hT
        go_wp2_with fail
        go_quiet (fail)
        go_wp2_with fail
        go_ret3
        exact ⟨_, _, 0, rfl, below_drewN ((below_alloc w _).trans hb) _, fun h => absurd H.out h, fun _ => ⟨_, HD.out, rfl, rfl, rfl⟩⟩
    · have H := hid (show tapeE s.size at' ok = 1 by unfold tapeE; rw [if_neg h64, if_neg (fun h => hg ⟨⟨h.1, h.2.1⟩, h.2.2⟩)])
      have hor : at' < 0 ∨ (0 ≤ at' ∧ 8 * (s.size : Int) < at') ∨ (0 ≤ at' ∧ at' ≤ 8 * (s.size : Int) ∧ ok = false) := by
        cases ok <;> simp at hg ⊢ <;> omega
      rcases hor with h | ⟨h, h'⟩ | ⟨h, h', rfl⟩
      all_goals
        go_enter Try.func77, Try.ntmps77
        go_wp2_with fail
        go_ret3
        exact ⟨0, 0, 1, rfl, Below.refl _ _, fun _ => ⟨rfl, rfl, H.out.symm⟩, fun h => by rw [H.out] at h; cases h⟩
theorem lam_part (a b g ca cb : Nat) (s : ByteArray) (p : Nat) (w : World) (h : TP w g s p false) (hca : w.cell? ⟨ca, 0, none⟩ = some (.int .i64 (a : Int))) (hcb : w.cell? ⟨cb, 0, none⟩ = some (.int .i64 (b : Int))) (hp : p ≤ 8 * s.size) (hs : s.size ≤ 1000) (hb1 : 1 ≤ b) (hb2 : b ≤ 1000000) :
    Calls Try.prog 82 #[.pointer (some ⟨g, 0, none⟩), .pointer (some ⟨ca, 0, none⟩), .pointer (some ⟨cb, 0, none⟩)] w (DrawsB g s p (DT (tb s) b a p) w) := by
  have BB := hid (part2_any g s a b p w h hp hs hb1 (by omega))
  clear h
  go_enter Try.func82, Try.ntmps82
  go_wp2_with fail
  refine BB.out.mono ?_
  rintro e w2 ⟨v, rfl, r, hD, hO, hb⟩
  go_wp2_with fail
  go_ret
  exact ⟨_, rfl, r, hD, hO, hb⟩
theorem sample_part (a b ca cb : Nat) (s : ByteArray) (at' : Int) (ok : Bool) (w : World) (hok : ok = true → 1 ≤ b ∧ b ≤ 1000000 ∧ a ≤ b) (hs : s.size ≤ 9223372036854775807) (hca : ok = true → w.cell? ⟨ca, 0, none⟩ = some (.int .i64 (a : Int))) (hcb : ok = true → w.cell? ⟨cb, 0, none⟩ = some (.int .i64 (b : Int))) :
    Calls Try.prog 81 #[.string s, .int .i64 at', .bool ok, .func (.func 82) #[] #[.pointer (some ⟨ca, 0, none⟩), .pointer (some ⟨cb, 0, none⟩)]] w (SaidB (tapeE s.size at' ok) (DT (tb s) b a at'.toNat) w) := by
  by_cases h64 : 64 < s.size
  · have H := hid (show tapeE s.size at' ok = 2 by unfold tapeE; rw [if_pos h64])
    have h64' : (64 : Int) < (s.size : Int) := by omega
    go_enter Try.func81, Try.ntmps81
    go_wp2_with fail
    go_ret3
    exact ⟨false, 0, 2, rfl, Below.refl _ _, fun _ => ⟨rfl, rfl, H.out.symm⟩, fun h => by rw [H.out] at h; cases h⟩
  · have h64' : ¬ (64 : Int) < (s.size : Int) := by omega
    have hw : IntKind.i64.wrap (8 * (s.size : Int)) = 8 * (s.size : Int) := by rw [IntWalk.i64_in _ (by omega)]
    by_cases hg : (0 ≤ at' ∧ at' ≤ 8 * (s.size : Int)) ∧ ok = true
    · obtain ⟨⟨h0, h8⟩, rfl⟩ := hg
      have H := hid (show tapeE s.size at' true = 0 by unfold tapeE; rw [if_neg h64, if_pos ⟨h0, h8, rfl⟩])
      obtain ⟨p, rfl⟩ : ∃ p : Nat, at' = (p : Int) := ⟨at'.toNat, by omega⟩
      have hn := hok rfl
      have hp8 : p ≤ 8 * s.size := by omega
      have hca := hca rfl
      have lca := World.block_lt_of_cell? w _ hca
      have hca1 : (w.alloc (.cells #[.string s, .int .i64 (p : Int), .bool false] 145)).cell? ⟨ca, 0, none⟩ = some (.int .i64 (a : Int)) := ((below_alloc w _).cell lca).trans hca
      have hcb := hcb rfl
      have lcb := World.block_lt_of_cell? w _ hcb
      have hcb1 : (w.alloc (.cells #[.string s, .int .i64 (p : Int), .bool false] 145)).cell? ⟨cb, 0, none⟩ = some (.int .i64 (b : Int)) := ((below_alloc w _).cell lcb).trans hcb
      clear hok
      go_enter Try.func81, Try.ntmps81
      go_wp2_with fail
      refine ((lam_part a b w.heap.size ca cb s p _ (TP.made s p w _) hca1 hcb1 hp8 (by omega) hn.1 hn.2.1)).mono ?_
      rintro e w2 ⟨v, rfl, r, hD, hO, hb⟩
      cases r with
      | none =>
        obtain ⟨q, hq, hT⟩ := hO
        obtain ⟨k0, k1, k2, f1, f2⟩ := id hT
        have HD := hid hD
        clear hD hT
        go_wp2_with fail
        go_ret3
        exact ⟨false, 0, 4, rfl, (below_alloc w _).trans hb, fun h => absurd H.out h, fun _ => ⟨none, HD.out, rfl, rfl, rfl⟩⟩
      | some xq =>
        obtain ⟨x, q⟩ := xq
        obtain ⟨rfl, hT⟩ := hO
        obtain ⟨k0, k1, k2, f1, f2⟩ := id hT
        have HD := hid hD
        clear hD hT
        go_wp2_with fail
        go_quiet (fail)
        go_wp2_with fail
        go_ret3
        exact ⟨_, _, 0, rfl, below_drewN ((below_alloc w _).trans hb) _, fun h => absurd H.out h, fun _ => ⟨_, HD.out, rfl, rfl, rfl⟩⟩
    · have H := hid (show tapeE s.size at' ok = 1 by unfold tapeE; rw [if_neg h64, if_neg (fun h => hg ⟨⟨h.1, h.2.1⟩, h.2.2⟩)])
      have hor : at' < 0 ∨ (0 ≤ at' ∧ 8 * (s.size : Int) < at') ∨ (0 ≤ at' ∧ at' ≤ 8 * (s.size : Int) ∧ ok = false) := by
        cases ok <;> simp at hg ⊢ <;> omega
      rcases hor with h | ⟨h, h'⟩ | ⟨h, h', rfl⟩
      all_goals
        go_enter Try.func81, Try.ntmps81
        go_wp2_with fail
        go_ret3
        exact ⟨false, 0, 1, rfl, Below.refl _ _, fun _ => ⟨rfl, rfl, H.out.symm⟩, fun h => by rw [H.out] at h; cases h⟩
theorem lam_exp (a b g ca cb : Nat) (s : ByteArray) (p : Nat) (w : World) (h : TP w g s p false) (hca : w.cell? ⟨ca, 0, none⟩ = some (.int .i64 (a : Int))) (hcb : w.cell? ⟨cb, 0, none⟩ = some (.int .i64 (b : Int))) (hp : p ≤ 8 * s.size) (hs : s.size ≤ 1000) (hb1 : 1 ≤ b) (hb2 : b ≤ 1000) (ha : a ≤ 1000 * b) :
    Calls Try.prog 84 #[.pointer (some ⟨g, 0, none⟩), .pointer (some ⟨ca, 0, none⟩), .pointer (some ⟨cb, 0, none⟩)] w (DrawsB g s p (DE (tb s) b a p) w) := by
  have BB := hid (exp_any g s a b p w h hp hs hb1 (by omega) (by omega))
  clear h
  go_enter Try.func84, Try.ntmps84
  go_wp2_with fail
  refine BB.out.mono ?_
  rintro e w2 ⟨v, rfl, r, hD, hO, hb⟩
  go_wp2_with fail
  go_ret
  exact ⟨_, rfl, r, hD, hO, hb⟩
theorem sample_exp (a b ca cb : Nat) (s : ByteArray) (at' : Int) (ok : Bool) (w : World) (hok : ok = true → 1 ≤ b ∧ b ≤ 1000 ∧ a ≤ 1000 * b) (hs : s.size ≤ 9223372036854775807) (hca : ok = true → w.cell? ⟨ca, 0, none⟩ = some (.int .i64 (a : Int))) (hcb : ok = true → w.cell? ⟨cb, 0, none⟩ = some (.int .i64 (b : Int))) :
    Calls Try.prog 81 #[.string s, .int .i64 at', .bool ok, .func (.func 84) #[] #[.pointer (some ⟨ca, 0, none⟩), .pointer (some ⟨cb, 0, none⟩)]] w (SaidB (tapeE s.size at' ok) (DE (tb s) b a at'.toNat) w) := by
  by_cases h64 : 64 < s.size
  · have H := hid (show tapeE s.size at' ok = 2 by unfold tapeE; rw [if_pos h64])
    have h64' : (64 : Int) < (s.size : Int) := by omega
    go_enter Try.func81, Try.ntmps81
    go_wp2_with fail
    go_ret3
    exact ⟨false, 0, 2, rfl, Below.refl _ _, fun _ => ⟨rfl, rfl, H.out.symm⟩, fun h => by rw [H.out] at h; cases h⟩
  · have h64' : ¬ (64 : Int) < (s.size : Int) := by omega
    have hw : IntKind.i64.wrap (8 * (s.size : Int)) = 8 * (s.size : Int) := by rw [IntWalk.i64_in _ (by omega)]
    by_cases hg : (0 ≤ at' ∧ at' ≤ 8 * (s.size : Int)) ∧ ok = true
    · obtain ⟨⟨h0, h8⟩, rfl⟩ := hg
      have H := hid (show tapeE s.size at' true = 0 by unfold tapeE; rw [if_neg h64, if_pos ⟨h0, h8, rfl⟩])
      obtain ⟨p, rfl⟩ : ∃ p : Nat, at' = (p : Int) := ⟨at'.toNat, by omega⟩
      have hn := hok rfl
      have hp8 : p ≤ 8 * s.size := by omega
      have hca := hca rfl
      have lca := World.block_lt_of_cell? w _ hca
      have hca1 : (w.alloc (.cells #[.string s, .int .i64 (p : Int), .bool false] 145)).cell? ⟨ca, 0, none⟩ = some (.int .i64 (a : Int)) := ((below_alloc w _).cell lca).trans hca
      have hcb := hcb rfl
      have lcb := World.block_lt_of_cell? w _ hcb
      have hcb1 : (w.alloc (.cells #[.string s, .int .i64 (p : Int), .bool false] 145)).cell? ⟨cb, 0, none⟩ = some (.int .i64 (b : Int)) := ((below_alloc w _).cell lcb).trans hcb
      clear hok
      go_enter Try.func81, Try.ntmps81
      go_wp2_with fail
      refine ((lam_exp a b w.heap.size ca cb s p _ (TP.made s p w _) hca1 hcb1 hp8 (by omega) hn.1 hn.2.1 hn.2.2)).mono ?_
      rintro e w2 ⟨v, rfl, r, hD, hO, hb⟩
      cases r with
      | none =>
        obtain ⟨q, hq, hT⟩ := hO
        obtain ⟨k0, k1, k2, f1, f2⟩ := id hT
        have HD := hid hD
        clear hD hT
        go_wp2_with fail
        go_ret3
        exact ⟨false, 0, 4, rfl, (below_alloc w _).trans hb, fun h => absurd H.out h, fun _ => ⟨none, HD.out, rfl, rfl, rfl⟩⟩
      | some xq =>
        obtain ⟨x, q⟩ := xq
        obtain ⟨rfl, hT⟩ := hO
        obtain ⟨k0, k1, k2, f1, f2⟩ := id hT
        have HD := hid hD
        clear hD hT
        go_wp2_with fail
        go_quiet (fail)
        go_wp2_with fail
        go_ret3
        exact ⟨_, _, 0, rfl, below_drewN ((below_alloc w _).trans hb) _, fun h => absurd H.out h, fun _ => ⟨_, HD.out, rfl, rfl, rfl⟩⟩
    · have H := hid (show tapeE s.size at' ok = 1 by unfold tapeE; rw [if_neg h64, if_neg (fun h => hg ⟨⟨h.1, h.2.1⟩, h.2.2⟩)])
      have hor : at' < 0 ∨ (0 ≤ at' ∧ 8 * (s.size : Int) < at') ∨ (0 ≤ at' ∧ at' ≤ 8 * (s.size : Int) ∧ ok = false) := by
        cases ok <;> simp at hg ⊢ <;> omega
      rcases hor with h | ⟨h, h'⟩ | ⟨h, h', rfl⟩
      all_goals
        go_enter Try.func81, Try.ntmps81
        go_wp2_with fail
        go_ret3
        exact ⟨false, 0, 1, rfl, Below.refl _ _, fun _ => ⟨rfl, rfl, H.out.symm⟩, fun h => by rw [H.out] at h; cases h⟩
theorem lam_count (a b g ca cb : Nat) (s : ByteArray) (p : Nat) (w : World) (h : TP w g s p false) (hca : w.cell? ⟨ca, 0, none⟩ = some (.int .i64 (a : Int))) (hcb : w.cell? ⟨cb, 0, none⟩ = some (.int .i64 (b : Int))) (hp : p ≤ 8 * s.size) (hs : s.size ≤ 1000) (ha1 : 1 ≤ a) (ha : a ≤ 1000) (hb1 : 1 ≤ b) (hb2 : b ≤ 1000) :
    Calls Try.prog 88 #[.pointer (some ⟨g, 0, none⟩), .pointer (some ⟨ca, 0, none⟩), .pointer (some ⟨cb, 0, none⟩)] w (DrawsN g s p (DC (tb s) a b 0 p) w) := by
  have BB := hid (count_any g s a b p w h hp hs hb1 (by omega) ha1 (by omega))
  clear h
  go_enter Try.func88, Try.ntmps88
  go_wp2_with fail
  refine BB.out.mono ?_
  rintro e w2 ⟨v, rfl, r, hD, hO, hb⟩
  go_wp2_with fail
  go_ret
  exact ⟨_, rfl, r, hD, hO, hb⟩
theorem sample_count (a b ca cb : Nat) (s : ByteArray) (at' : Int) (ok : Bool) (w : World) (hok : ok = true → 1 ≤ a ∧ a ≤ 1000 ∧ 1 ≤ b ∧ b ≤ 1000) (hs : s.size ≤ 9223372036854775807) (hca : ok = true → w.cell? ⟨ca, 0, none⟩ = some (.int .i64 (a : Int))) (hcb : ok = true → w.cell? ⟨cb, 0, none⟩ = some (.int .i64 (b : Int))) :
    Calls Try.prog 77 #[.string s, .int .i64 at', .bool ok, .func (.func 88) #[] #[.pointer (some ⟨ca, 0, none⟩), .pointer (some ⟨cb, 0, none⟩)]] w (SaidN (tapeE s.size at' ok) (DC (tb s) a b 0 at'.toNat) w) := by
  by_cases h64 : 64 < s.size
  · have H := hid (show tapeE s.size at' ok = 2 by unfold tapeE; rw [if_pos h64])
    have h64' : (64 : Int) < (s.size : Int) := by omega
    go_enter Try.func77, Try.ntmps77
    go_wp2_with fail
    go_ret3
    exact ⟨0, 0, 2, rfl, Below.refl _ _, fun _ => ⟨rfl, rfl, H.out.symm⟩, fun h => by rw [H.out] at h; cases h⟩
  · have h64' : ¬ (64 : Int) < (s.size : Int) := by omega
    have hw : IntKind.i64.wrap (8 * (s.size : Int)) = 8 * (s.size : Int) := by rw [IntWalk.i64_in _ (by omega)]
    by_cases hg : (0 ≤ at' ∧ at' ≤ 8 * (s.size : Int)) ∧ ok = true
    · obtain ⟨⟨h0, h8⟩, rfl⟩ := hg
      have H := hid (show tapeE s.size at' true = 0 by unfold tapeE; rw [if_neg h64, if_pos ⟨h0, h8, rfl⟩])
      obtain ⟨p, rfl⟩ : ∃ p : Nat, at' = (p : Int) := ⟨at'.toNat, by omega⟩
      have hn := hok rfl
      have hp8 : p ≤ 8 * s.size := by omega
      have hca := hca rfl
      have lca := World.block_lt_of_cell? w _ hca
      have hca1 : (w.alloc (.cells #[.string s, .int .i64 (p : Int), .bool false] 145)).cell? ⟨ca, 0, none⟩ = some (.int .i64 (a : Int)) := ((below_alloc w _).cell lca).trans hca
      have hcb := hcb rfl
      have lcb := World.block_lt_of_cell? w _ hcb
      have hcb1 : (w.alloc (.cells #[.string s, .int .i64 (p : Int), .bool false] 145)).cell? ⟨cb, 0, none⟩ = some (.int .i64 (b : Int)) := ((below_alloc w _).cell lcb).trans hcb
      clear hok
      go_enter Try.func77, Try.ntmps77
      go_wp2_with fail
      refine ((lam_count a b w.heap.size ca cb s p _ (TP.made s p w _) hca1 hcb1 hp8 (by omega) hn.1 hn.2.1 hn.2.2.1 hn.2.2.2)).mono ?_
      rintro e w2 ⟨v, rfl, r, hD, hO, hb⟩
      cases r with
      | none =>
        obtain ⟨q, hq, hT⟩ := hO
        obtain ⟨k0, k1, k2, f1, f2⟩ := id hT
        have HD := hid hD
        clear hD hT
        go_wp2_with fail
        go_ret3
        exact ⟨0, 0, 4, rfl, (below_alloc w _).trans hb, fun h => absurd H.out h, fun _ => ⟨none, HD.out, rfl, rfl, rfl⟩⟩
      | some xq =>
        obtain ⟨x, q⟩ := xq
        obtain ⟨rfl, hT⟩ := hO
        obtain ⟨k0, k1, k2, f1, f2⟩ := id hT
        have HD := hid hD
        clear hD hT
        go_wp2_with fail
        go_quiet (fail)
        go_wp2_with fail
        go_ret3
        exact ⟨_, _, 0, rfl, below_drewN ((below_alloc w _).trans hb) _, fun h => absurd H.out h, fun _ => ⟨_, HD.out, rfl, rfl, rfl⟩⟩
    · have H := hid (show tapeE s.size at' ok = 1 by unfold tapeE; rw [if_neg h64, if_neg (fun h => hg ⟨⟨h.1, h.2.1⟩, h.2.2⟩)])
      have hor : at' < 0 ∨ (0 ≤ at' ∧ 8 * (s.size : Int) < at') ∨ (0 ≤ at' ∧ at' ≤ 8 * (s.size : Int) ∧ ok = false) := by
        cases ok <;> simp at hg ⊢ <;> omega
      rcases hor with h | ⟨h, h'⟩ | ⟨h, h', rfl⟩
      all_goals
        go_enter Try.func77, Try.ntmps77
        go_wp2_with fail
        go_ret3
        exact ⟨0, 0, 1, rfl, Below.refl _ _, fun _ => ⟨rfl, rfl, H.out.symm⟩, fun h => by rw [H.out] at h; cases h⟩
theorem lam_laplace (a b g ca cb : Nat) (s : ByteArray) (p : Nat) (w : World) (h : TP w g s p false) (hca : w.cell? ⟨ca, 0, none⟩ = some (.int .i64 (a : Int))) (hcb : w.cell? ⟨cb, 0, none⟩ = some (.int .i64 (b : Int))) (hp : p ≤ 8 * s.size) (hs : s.size ≤ 1000) (ha1 : 1 ≤ a) (ha : a ≤ 1000) (hb1 : 1 ≤ b) (hb2 : b ≤ 1000) :
    Calls Try.prog 90 #[.pointer (some ⟨g, 0, none⟩), .pointer (some ⟨ca, 0, none⟩), .pointer (some ⟨cb, 0, none⟩)] w (DrawsI g s p (DP (tb s) a b p) w) := by
  have BB := hid (laplace_any g s a b p w h hp hs hb1 (by omega) ha1 (by omega))
  clear h
  go_enter Try.func90, Try.ntmps90
  go_wp2_with fail
  refine BB.out.mono ?_
  rintro e w2 ⟨v, rfl, r, hD, hO, hb⟩
  go_wp2_with fail
  go_ret
  exact ⟨_, rfl, r, hD, hO, hb⟩
theorem sample_laplace (a b ca cb : Nat) (s : ByteArray) (at' : Int) (ok : Bool) (w : World) (hok : ok = true → 1 ≤ a ∧ a ≤ 1000 ∧ 1 ≤ b ∧ b ≤ 1000) (hs : s.size ≤ 9223372036854775807) (hca : ok = true → w.cell? ⟨ca, 0, none⟩ = some (.int .i64 (a : Int))) (hcb : ok = true → w.cell? ⟨cb, 0, none⟩ = some (.int .i64 (b : Int))) :
    Calls Try.prog 77 #[.string s, .int .i64 at', .bool ok, .func (.func 90) #[] #[.pointer (some ⟨ca, 0, none⟩), .pointer (some ⟨cb, 0, none⟩)]] w (SaidI (tapeE s.size at' ok) (DP (tb s) a b at'.toNat) w) := by
  by_cases h64 : 64 < s.size
  · have H := hid (show tapeE s.size at' ok = 2 by unfold tapeE; rw [if_pos h64])
    have h64' : (64 : Int) < (s.size : Int) := by omega
    go_enter Try.func77, Try.ntmps77
    go_wp2_with fail
    go_ret3
    exact ⟨0, 0, 2, rfl, Below.refl _ _, fun _ => ⟨rfl, rfl, H.out.symm⟩, fun h => by rw [H.out] at h; cases h⟩
  · have h64' : ¬ (64 : Int) < (s.size : Int) := by omega
    have hw : IntKind.i64.wrap (8 * (s.size : Int)) = 8 * (s.size : Int) := by rw [IntWalk.i64_in _ (by omega)]
    by_cases hg : (0 ≤ at' ∧ at' ≤ 8 * (s.size : Int)) ∧ ok = true
    · obtain ⟨⟨h0, h8⟩, rfl⟩ := hg
      have H := hid (show tapeE s.size at' true = 0 by unfold tapeE; rw [if_neg h64, if_pos ⟨h0, h8, rfl⟩])
      obtain ⟨p, rfl⟩ : ∃ p : Nat, at' = (p : Int) := ⟨at'.toNat, by omega⟩
      have hn := hok rfl
      have hp8 : p ≤ 8 * s.size := by omega
      have hca := hca rfl
      have lca := World.block_lt_of_cell? w _ hca
      have hca1 : (w.alloc (.cells #[.string s, .int .i64 (p : Int), .bool false] 145)).cell? ⟨ca, 0, none⟩ = some (.int .i64 (a : Int)) := ((below_alloc w _).cell lca).trans hca
      have hcb := hcb rfl
      have lcb := World.block_lt_of_cell? w _ hcb
      have hcb1 : (w.alloc (.cells #[.string s, .int .i64 (p : Int), .bool false] 145)).cell? ⟨cb, 0, none⟩ = some (.int .i64 (b : Int)) := ((below_alloc w _).cell lcb).trans hcb
      clear hok
      go_enter Try.func77, Try.ntmps77
      go_wp2_with fail
      refine ((lam_laplace a b w.heap.size ca cb s p _ (TP.made s p w _) hca1 hcb1 hp8 (by omega) hn.1 hn.2.1 hn.2.2.1 hn.2.2.2)).mono ?_
      rintro e w2 ⟨v, rfl, r, hD, hO, hb⟩
      cases r with
      | none =>
        obtain ⟨q, hq, hT⟩ := hO
        obtain ⟨k0, k1, k2, f1, f2⟩ := id hT
        have HD := hid hD
        clear hD hT
        go_wp2_with fail
        go_ret3
        exact ⟨0, 0, 4, rfl, (below_alloc w _).trans hb, fun h => absurd H.out h, fun _ => ⟨none, HD.out, rfl, rfl, rfl⟩⟩
      | some xq =>
        obtain ⟨x, q⟩ := xq
        obtain ⟨rfl, hT⟩ := hO
        obtain ⟨k0, k1, k2, f1, f2⟩ := id hT
        have HD := hid hD
        clear hD hT
        go_wp2_with fail
        go_quiet (fail)
        go_wp2_with fail
        go_ret3
        exact ⟨_, _, 0, rfl, below_drewN ((below_alloc w _).trans hb) _, fun h => absurd H.out h, fun _ => ⟨_, HD.out, rfl, rfl, rfl⟩⟩
    · have H := hid (show tapeE s.size at' ok = 1 by unfold tapeE; rw [if_neg h64, if_neg (fun h => hg ⟨⟨h.1, h.2.1⟩, h.2.2⟩)])
      have hor : at' < 0 ∨ (0 ≤ at' ∧ 8 * (s.size : Int) < at') ∨ (0 ≤ at' ∧ at' ≤ 8 * (s.size : Int) ∧ ok = false) := by
        cases ok <;> simp at hg ⊢ <;> omega
      rcases hor with h | ⟨h, h'⟩ | ⟨h, h', rfl⟩
      all_goals
        go_enter Try.func77, Try.ntmps77
        go_wp2_with fail
        go_ret3
        exact ⟨0, 0, 1, rfl, Below.refl _ _, fun _ => ⟨rfl, rfl, H.out.symm⟩, fun h => by rw [H.out] at h; cases h⟩
end Go.Proofs.Ytdoiobdomngccaa
