/- The program's coins. -/
import Derived.Test.YtdoiobdomngccaaCo7
set_option linter.unusedVariables false
set_option linter.unnecessarySimpa false
set_option linter.unusedSimpArgs false
namespace Go.Proofs.Ytdoiobdomngccaa
open Go.RowKit Go.Ulp
set_option linter.unusedVariables false
set_option linter.unnecessarySimpa false
set_option linter.unusedSimpArgs false
set_option maxHeartbeats 1000000
set_option maxRecDepth 100000
def okBelow (n : Int) : Bool := decide (1 ≤ n ∧ n ≤ 1000000)
def okPart (a b : Int) : Bool := decide (1 ≤ b ∧ b ≤ 1000000) && decide (0 ≤ a ∧ a ≤ b)
def okExp (a b : Int) : Bool := decide (1 ≤ b ∧ b ≤ 1000) && decide (0 ≤ a ∧ a ≤ 1000 * b)
def okSmall (a b : Int) : Bool := decide (1 ≤ a ∧ a ≤ 1000) && decide (1 ≤ b ∧ b ≤ 1000)
theorem SaidN.mk' {t : Int} {D : Option (Nat × Nat) → Prop} {w w1 w' : World} {e : Ending} (h : SaidN t D w1 e w') (hb : Below w.heap.size w w1) : SaidN t D w e w' := by
  obtain ⟨v, k, u, h1, h2, h3⟩ := h
  exact ⟨v, k, u, h1, hb.trans (h2.mono hb.size), h3⟩
theorem SaidI.mk' {t : Int} {D : Option (Int × Nat) → Prop} {w w1 w' : World} {e : Ending} (h : SaidI t D w1 e w') (hb : Below w.heap.size w w1) : SaidI t D w e w' := by
  obtain ⟨v, k, u, h1, h2, h3⟩ := h
  exact ⟨v, k, u, h1, hb.trans (h2.mono hb.size), h3⟩
theorem SaidB.mk' {t : Int} {D : Option (Bool × Nat) → Prop} {w w1 w' : World} {e : Ending} (h : SaidB t D w1 e w') (hb : Below w.heap.size w w1) : SaidB t D w e w' := by
  obtain ⟨v, k, u, h1, h2, h3⟩ := h
  exact ⟨v, k, u, h1, hb.trans (h2.mono hb.size), h3⟩
theorem bx1 (w : World) (n : Int) (t : TypeId) : (w.alloc (.cells #[.int .i64 n] t)).cell? ⟨w.heap.size, 0, none⟩ = some (.int .i64 n) := by rw [World.cell?_alloc_at (hn := rfl)]; rfl
theorem bx2 (w : World) (a b : Int) (t u : TypeId) : ((w.alloc (.cells #[.int .i64 a] t)).alloc (.cells #[.int .i64 b] u)).cell? ⟨w.heap.size, 0, none⟩ = some (.int .i64 a) ∧ ((w.alloc (.cells #[.int .i64 a] t)).alloc (.cells #[.int .i64 b] u)).cell? ⟨w.heap.size + 1, 0, none⟩ = some (.int .i64 b) := by
  refine ⟨?_, ?_⟩
  · rw [(below_alloc (w.alloc (.cells #[.int .i64 a] t)) _).cell (by simp)]; exact bx1 w a t
  · have := bx1 (w.alloc (.cells #[.int .i64 a] t)) b u
    simpa using this
theorem small_any (a b : Int) (w : World) : Calls Try.prog 87 #[.int .i64 a, .int .i64 b] w fun e w' => e = .returned (.bool (okSmall a b)) ∧ w = w' := by
  have W1 := hid (show ∀ w, Calls Try.prog 78 #[.int .i64 a, .int .i64 1, .int .i64 1000] w fun e w' => e = .returned (.bool (decide (1 ≤ a ∧ a ≤ 1000))) ∧ w = w' from fun w => within_any a 1 1000 w)
  have W2 := hid (show ∀ w, Calls Try.prog 78 #[.int .i64 b, .int .i64 1, .int .i64 1000] w fun e w' => e = .returned (.bool (decide (1 ≤ b ∧ b ≤ 1000))) ∧ w = w' from fun w => within_any b 1 1000 w)
  unfold okSmall
  generalize decide (1 ≤ a ∧ a ≤ 1000) = c1 at W1 ⊢
  generalize decide (1 ≤ b ∧ b ≤ 1000) = c2 at W2 ⊢
  cases c1
  · go_enter Try.func87, Try.ntmps87
    go_wp2_with (go_at_call 78; refine (W1.out _).mono ?_; rintro e w' ⟨rfl, rfl⟩)
    go_ret
    exact ⟨rfl, rfl⟩
  · go_enter Try.func87, Try.ntmps87
    go_wp2_with (first | (go_at_call 78; (with_reducible refine (W1.out _).mono ?_); rintro e1 w1 ⟨rfl, rfl⟩) | (go_at_call 78; (with_reducible refine (W2.out _).mono ?_); rintro e1 w1 ⟨rfl, rfl⟩))
    go_ret
    exact ⟨by simp, rfl⟩
theorem below_says (n : Int) (s : ByteArray) (at' : Int) (w : World) (hs : s.size ≤ 9223372036854775807) :
    Calls Try.prog 26 #[.int .i64 n, .string s, .int .i64 at'] w (SaidN (tapeE s.size at' (okBelow n)) (DB (tb s) n.toNat at'.toNat) w) := by
  have hmf : ∀ fn first cap w, (Instr.makeFunc fn first cap).run Try.prog w = .ok (.func fn first cap) w := fun _ _ _ _ => rfl
  have W := hid (show ∀ w, Calls Try.prog 78 #[.int .i64 n, .int .i64 1, .int .i64 1000000] w fun e w' => e = .returned (.bool (okBelow n)) ∧ w = w' from fun w => within_any n 1 1000000 w)
  have hok : okBelow n = true → 1 ≤ n ∧ n ≤ 1000000 := fun h => by simpa [okBelow] using h
  generalize okBelow n = ok at W hok ⊢
  go_enter Try.func26, Try.ntmps26
  go_wp2_with (go_at_call 78; refine (W.out _).mono ?_; rintro e w' ⟨rfl, rfl⟩)
  refine (sample_below n.toNat w.heap.size s at' ok _ (fun h => by have := hok h; omega) hs (fun h => by have := hok h; rw [show ((n.toNat : Nat) : Int) = n by omega]; exact bx1 w n _)).mono ?_
  rintro e w2 hS
  obtain ⟨v, k, u, rfl, hb, h1, h2⟩ := hS.mk' (below_alloc w _)
  go_wp2_with fail
  go_ret3
  exact ⟨v, k, u, rfl, hb, h1, h2⟩
theorem part_says (a b : Int) (s : ByteArray) (at' : Int) (w : World) (hs : s.size ≤ 9223372036854775807) :
    Calls Try.prog 27 #[.int .i64 a, .int .i64 b, .string s, .int .i64 at'] w (SaidB (tapeE s.size at' (okPart a b)) (DT (tb s) b.toNat a.toNat at'.toNat) w) := by
  have hmf : ∀ fn first cap w, (Instr.makeFunc fn first cap).run Try.prog w = .ok (.func fn first cap) w := fun _ _ _ _ => rfl
  have W1 := hid (show ∀ w, Calls Try.prog 78 #[.int .i64 b, .int .i64 1, .int .i64 1000000] w fun e w' => e = .returned (.bool (decide (1 ≤ b ∧ b ≤ 1000000))) ∧ w = w' from fun w => within_any b 1 1000000 w)
  have W2 := hid (show ∀ w, Calls Try.prog 78 #[.int .i64 a, .int .i64 0, .int .i64 (b)] w fun e w' => e = .returned (.bool (decide (0 ≤ a ∧ a ≤ b))) ∧ w = w' from fun w => within_any a 0 (b) w)
  obtain ⟨ok, hokd⟩ : ∃ ok, ok = okPart a b := ⟨_, rfl⟩
  have hok : ok = true → 1 ≤ b ∧ b ≤ 1000000 ∧ 0 ≤ a ∧ a ≤ b := fun h => by rw [hokd] at h; simpa [okPart, and_assoc] using h
  rw [← hokd]
  unfold okPart at hokd
  generalize decide (1 ≤ b ∧ b ≤ 1000000) = c1 at *
  generalize decide (0 ≤ a ∧ a ≤ b) = c2 at *
  cases c1
  · obtain rfl : ok = false := by simpa using hokd
    clear hokd
    go_enter Try.func27, Try.ntmps27
    go_wp2_with (go_at_call 78; refine (W1.out _).mono ?_; rintro e w' ⟨rfl, rfl⟩)
    refine (sample_part a.toNat b.toNat w.heap.size (w.heap.size + 1) s at' _ _ (fun h => by have := hok h; omega) hs (fun h => by have := hok h; rw [show ((a.toNat : Nat) : Int) = a by omega]; exact (bx2 w a b _ _).1) (fun h => by have := hok h; rw [show ((b.toNat : Nat) : Int) = b by omega]; exact (bx2 w a b _ _).2)).mono ?_
    rintro e w2 hS
    obtain ⟨v, k, u, rfl, hb, h1, h2⟩ := hS.mk' ((below_alloc w _).trans ((below_alloc _ _).mono (by simp)))
    go_wp2_with fail
    go_ret3
    exact ⟨v, k, u, rfl, hb, h1, h2⟩
  · obtain rfl : ok = c2 := by simpa using hokd
    clear hokd
    go_enter Try.func27, Try.ntmps27
    go_wp2_with (first | (go_at_call 78; (with_reducible refine (W1.out _).mono ?_); rintro e1 w1 ⟨rfl, rfl⟩) | (go_at_call 78; (with_reducible refine (W2.out _).mono ?_); rintro e1 w1 ⟨rfl, rfl⟩))
    refine (sample_part a.toNat b.toNat w.heap.size (w.heap.size + 1) s at' _ _ (fun h => by have := hok h; omega) hs (fun h => by have := hok h; rw [show ((a.toNat : Nat) : Int) = a by omega]; exact (bx2 w a b _ _).1) (fun h => by have := hok h; rw [show ((b.toNat : Nat) : Int) = b by omega]; exact (bx2 w a b _ _).2)).mono ?_
    rintro e w2 hS
    obtain ⟨v, k, u, rfl, hb, h1, h2⟩ := hS.mk' ((below_alloc w _).trans ((below_alloc _ _).mono (by simp)))
    go_wp2_with fail
    go_ret3
    exact ⟨v, k, u, rfl, hb, h1, h2⟩
theorem exp_says (a b : Int) (s : ByteArray) (at' : Int) (w : World) (hs : s.size ≤ 9223372036854775807) :
    Calls Try.prog 28 #[.int .i64 a, .int .i64 b, .string s, .int .i64 at'] w (SaidB (tapeE s.size at' (okExp a b)) (DE (tb s) b.toNat a.toNat at'.toNat) w) := by
  have hmf : ∀ fn first cap w, (Instr.makeFunc fn first cap).run Try.prog w = .ok (.func fn first cap) w := fun _ _ _ _ => rfl
  have W1 := hid (show ∀ w, Calls Try.prog 78 #[.int .i64 b, .int .i64 1, .int .i64 1000] w fun e w' => e = .returned (.bool (decide (1 ≤ b ∧ b ≤ 1000))) ∧ w = w' from fun w => within_any b 1 1000 w)
  have W2 := hid (show ∀ w, Calls Try.prog 78 #[.int .i64 a, .int .i64 0, .int .i64 (1000 * b)] w fun e w' => e = .returned (.bool (decide (0 ≤ a ∧ a ≤ 1000 * b))) ∧ w = w' from fun w => within_any a 0 (1000 * b) w)
  obtain ⟨ok, hokd⟩ : ∃ ok, ok = okExp a b := ⟨_, rfl⟩
  have hok : ok = true → 1 ≤ b ∧ b ≤ 1000 ∧ 0 ≤ a ∧ a ≤ 1000 * b := fun h => by rw [hokd] at h; simpa [okExp, and_assoc] using h
  rw [← hokd]
  unfold okExp at hokd
  have hmul : decide (1 ≤ b ∧ b ≤ 1000) = true → IntKind.i64.wrap (1000 * b) = 1000 * b := fun h => by rw [IntWalk.i64_in _ (by simp at h; omega)]
  generalize decide (1 ≤ b ∧ b ≤ 1000) = c1 at *
  generalize decide (0 ≤ a ∧ a ≤ 1000 * b) = c2 at *
  cases c1
  · obtain rfl : ok = false := by simpa using hokd
    clear hokd
    go_enter Try.func28, Try.ntmps28
    go_wp2_with (go_at_call 78; refine (W1.out _).mono ?_; rintro e w' ⟨rfl, rfl⟩)
    refine (sample_exp a.toNat b.toNat w.heap.size (w.heap.size + 1) s at' _ _ (fun h => by have := hok h; omega) hs (fun h => by have := hok h; rw [show ((a.toNat : Nat) : Int) = a by omega]; exact (bx2 w a b _ _).1) (fun h => by have := hok h; rw [show ((b.toNat : Nat) : Int) = b by omega]; exact (bx2 w a b _ _).2)).mono ?_
    rintro e w2 hS
    obtain ⟨v, k, u, rfl, hb, h1, h2⟩ := hS.mk' ((below_alloc w _).trans ((below_alloc _ _).mono (by simp)))
    go_wp2_with fail
    go_ret3
    exact ⟨v, k, u, rfl, hb, h1, h2⟩
  · obtain rfl : ok = c2 := by simpa using hokd
    clear hokd
    go_enter Try.func28, Try.ntmps28
    go_wp2_with (first | (go_at_call 78; (with_reducible refine (W1.out _).mono ?_); rintro e1 w1 ⟨rfl, rfl⟩) | (go_at_call 78; (with_reducible refine (W2.out _).mono ?_); rintro e1 w1 ⟨rfl, rfl⟩))
    refine (sample_exp a.toNat b.toNat w.heap.size (w.heap.size + 1) s at' _ _ (fun h => by have := hok h; omega) hs (fun h => by have := hok h; rw [show ((a.toNat : Nat) : Int) = a by omega]; exact (bx2 w a b _ _).1) (fun h => by have := hok h; rw [show ((b.toNat : Nat) : Int) = b by omega]; exact (bx2 w a b _ _).2)).mono ?_
    rintro e w2 hS
    obtain ⟨v, k, u, rfl, hb, h1, h2⟩ := hS.mk' ((below_alloc w _).trans ((below_alloc _ _).mono (by simp)))
    go_wp2_with fail
    go_ret3
    exact ⟨v, k, u, rfl, hb, h1, h2⟩
theorem count_says (a b : Int) (s : ByteArray) (at' : Int) (w : World) (hs : s.size ≤ 9223372036854775807) :
    Calls Try.prog 38 #[.int .i64 a, .int .i64 b, .string s, .int .i64 at'] w (SaidN (tapeE s.size at' (okSmall a b)) (DC (tb s) a.toNat b.toNat 0 at'.toNat) w) := by
  have hmf : ∀ fn first cap w, (Instr.makeFunc fn first cap).run Try.prog w = .ok (.func fn first cap) w := fun _ _ _ _ => rfl
  have W := hid (fun w => small_any a b w)
  have hok : okSmall a b = true → 1 ≤ a ∧ a ≤ 1000 ∧ 1 ≤ b ∧ b ≤ 1000 := fun h => by simpa [okSmall, and_assoc] using h
  generalize okSmall a b = ok at W hok ⊢
  go_enter Try.func38, Try.ntmps38
  go_wp2_with (go_at_call 87; refine (W.out _).mono ?_; rintro e w' ⟨rfl, rfl⟩)
  refine (sample_count a.toNat b.toNat w.heap.size (w.heap.size + 1) s at' ok _ (fun h => by have := hok h; omega) hs (fun h => by have := hok h; rw [show ((a.toNat : Nat) : Int) = a by omega]; exact (bx2 w a b _ _).1) (fun h => by have := hok h; rw [show ((b.toNat : Nat) : Int) = b by omega]; exact (bx2 w a b _ _).2)).mono ?_
  rintro e w2 hS
  obtain ⟨v, k, u, rfl, hb, h1, h2⟩ := hS.mk' ((below_alloc w _).trans ((below_alloc _ _).mono (by simp)))
  go_wp2_with fail
  go_ret3
  exact ⟨v, k, u, rfl, hb, h1, h2⟩
theorem laplace_says (a b : Int) (s : ByteArray) (at' : Int) (w : World) (hs : s.size ≤ 9223372036854775807) :
    Calls Try.prog 39 #[.int .i64 a, .int .i64 b, .string s, .int .i64 at'] w (SaidI (tapeE s.size at' (okSmall a b)) (DP (tb s) a.toNat b.toNat at'.toNat) w) := by
  have hmf : ∀ fn first cap w, (Instr.makeFunc fn first cap).run Try.prog w = .ok (.func fn first cap) w := fun _ _ _ _ => rfl
  have W := hid (fun w => small_any a b w)
  have hok : okSmall a b = true → 1 ≤ a ∧ a ≤ 1000 ∧ 1 ≤ b ∧ b ≤ 1000 := fun h => by simpa [okSmall, and_assoc] using h
  generalize okSmall a b = ok at W hok ⊢
  go_enter Try.func39, Try.ntmps39
  go_wp2_with (go_at_call 87; refine (W.out _).mono ?_; rintro e w' ⟨rfl, rfl⟩)
  refine (sample_laplace a.toNat b.toNat w.heap.size (w.heap.size + 1) s at' ok _ (fun h => by have := hok h; omega) hs (fun h => by have := hok h; rw [show ((a.toNat : Nat) : Int) = a by omega]; exact (bx2 w a b _ _).1) (fun h => by have := hok h; rw [show ((b.toNat : Nat) : Int) = b by omega]; exact (bx2 w a b _ _).2)).mono ?_
  rintro e w2 hS
  obtain ⟨v, k, u, rfl, hb, h1, h2⟩ := hS.mk' ((below_alloc w _).trans ((below_alloc _ _).mono (by simp)))
  go_wp2_with fail
  go_ret3
  exact ⟨v, k, u, rfl, hb, h1, h2⟩
end Go.Proofs.Ytdoiobdomngccaa
