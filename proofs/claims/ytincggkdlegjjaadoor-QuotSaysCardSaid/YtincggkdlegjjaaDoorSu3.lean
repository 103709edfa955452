/- Rounded sums, and how a law holds them against what is to be told. -/
import Derived.Test.YtincggkdlegjjaaDoorSu1
import Derived.Test.YtincggkdlegjjaaDoorSu2
set_option linter.unusedVariables false
set_option linter.unusedSimpArgs false
namespace Go.Ulp
open Go.RowKit
/-- what is told of a mode -/
def mdX (mode x : Int) : Int := if knownB mode = true then x else 0
def mdC (mode : Int) (c : Bool) : Bool := if knownB mode = true then c else false
def mdE (mode : Int) : Int := if knownB mode = true then 0 else 1
theorem md_yes {mode : Int} (h : knownB mode = true) (x : Int) (c : Bool) : mdX mode x = x ∧ mdC mode c = c ∧ mdE mode = 0 := by
  unfold mdX mdC mdE; rw [if_pos h, if_pos h, if_pos h]; exact ⟨rfl, rfl, rfl⟩
theorem md_no {mode : Int} (h : knownB mode = false) (x : Int) (c : Bool) : mdX mode x = 0 ∧ mdC mode c = false ∧ mdE mode = 1 := by
  unfold mdX mdC mdE; rw [h]; exact ⟨rfl, rfl, rfl⟩
/-- a new list of two numbers -/
theorem ns2 (w : World) (t : TypeId) (a b : Nat) : Ns .u64 (w.alloc (.cells #[.int .u64 (a : Int), .int .u64 (b : Int)] t)) (some ⟨w.heap.size, 0, none⟩) 2 [a, b] := by
  refine ⟨by simp, by unfold maxLen; omega, fun _ => ⟨w.heap.size, 0, rfl, fun i hi => ?_⟩⟩
  have hi6 : i < 2 := by simpa using hi
  obtain rfl | rfl : i = 0 ∨ i = 1 := by omega
  all_goals (rw [World.cell?_alloc_at (hn := rfl)]; rfl)
theorem two_lt (a b : Nat) (ha : a < 18446744073709551616) (hb : b < 18446744073709551616) : ∀ j, lb [a, b] j < 18446744073709551616 := by
  intro j
  by_cases hj : j < 2
  · obtain rfl | rfl : j = 0 ∨ j = 1 := by omega
    · show (a : Int) < _; omega
    · show (b : Int) < _; omega
  · unfold lb; rw [getD_out _ _ (by simp; omega)]; omega
/-- a cell that holds a value -/
def CV (w : World) (g : Nat) (v : Value) : Prop := w.cell? ⟨g, 0, none⟩ = some v ∧ w.frozen? ⟨g, 0, none⟩ = false
theorem CV.below {w w' : World} {g : Nat} {v : Value} (h : CV w g v) (hb : Below w.heap.size w w') : CV w' g v :=
  ⟨(hb.cell (World.block_lt_of_cell? _ _ h.1)).trans h.1, (hb.frozen (World.block_lt_of_cell? _ _ h.1)).trans h.2⟩
theorem CV.made {w : World} {v : Value} {t : TypeId} : CV (w.alloc (.cells #[v] t)) w.heap.size v := by
  constructor
  · rw [World.cell?_alloc_at (hn := rfl)]; rfl
  · simp
end Go.Ulp
namespace Go.Proofs.YtincggkdlegjjaaDoor
open Go.RowKit Go.Ulp
set_option linter.unusedVariables false
set_option linter.unusedSimpArgs false
set_option maxHeartbeats 2000000
set_option maxRecDepth 100000
theorem told_md (x : Int) (ch : Bool) (mode : Int) (fn : Nat) (caps : Array Value) (w : World) (hfn : ∀ w, Sem.run Tryd.prog (callFunc fn caps) w = .ok (.enter fn caps) w) (hC : knownB mode = true → ∀ w', Below w.heap.size w w' → Calls Tryd.prog fn caps w' (RetX w' x ch)) :
    Calls Tryd.prog 12 #[.int .u64 (mdX mode x), .bool (mdC mode ch), .int .i64 (mdE mode), .int .i64 mode, .func (.func fn) #[] caps] w fun e w' => e = .returned (.bool true) ∧ Below w.heap.size w w' := by
  have BT := hid (show ∀ w, Calls Tryd.prog 28 #[.int .i64 mode, .int .i64 0, .int .i64 4] w fun e w' => e = .returned (.bool (knownB mode)) ∧ w = w' from fun w => between_any mode 0 4 w)
  cases hk : knownB mode
  · obtain ⟨e1, e2, e3⟩ := md_no hk x ch
    rw [e1, e2, e3]
    rw [hk] at BT
    clear e1 e2 e3 hC hk
    go_enter Tryd.func12, Tryd.ntmps12
    go_wp2_with (go_at_call 28; (with_reducible refine (BT.out _).mono ?_); rintro en w1 ⟨rfl, rfl⟩)
    go_ret
    exact ⟨rfl, Below.refl _ _⟩
  · obtain ⟨e1, e2, e3⟩ := md_yes hk x ch
    rw [e1, e2, e3]
    have HC := hid (hC hk w (Below.refl _ _))
    rw [hk] at BT
    clear e1 e2 e3 hC hk
    go_enter Tryd.func12, Tryd.ntmps12
    go_wp2_with (first
      | (go_at_call 28; (with_reducible refine (BT.out _).mono ?_); rintro en w1 ⟨rfl, rfl⟩)
      | ((with_reducible refine HC.out.mono ?_); rintro en w2 ⟨rfl, hb2⟩))
    go_ret
    exact ⟨ret_bool (by simp), hb2⟩
end Go.Proofs.YtincggkdlegjjaaDoor
