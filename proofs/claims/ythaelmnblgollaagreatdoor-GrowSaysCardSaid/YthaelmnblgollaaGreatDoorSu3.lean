/- Rounded sums, and how a law holds them against what is to be told. -/
import Derived.Test.YthaelmnblgollaaGreatDoorSu1
import Derived.Test.YthaelmnblgollaaGreatDoorSu2
set_option linter.unusedVariables false
set_option linter.unusedSimpArgs false
namespace Go.Ulp
open Go.RowKit
/-- what is told of a mode -/
def mdX (mode x : Int) : Int := if knownB mode = true then x else 0
def mdC (mode : Int) (c : Bool) : Bool := if knownB mode = true then c else false
def mdE (mode : Int) : Int := if knownB mode = true then 0 else 1
theorem md_yes {mode : Int} (h : knownB mode = true) (x : Int) (c : Bool) : mdX mode x = x ∧ mdC mode c = c ∧ mdE mode = 0 := by
  unfold mdX mdC mdE; rw [if_pos h, if_pos h, if_pos h]; exact ⟨rfl, rfl, rfl⟩
theorem md_no {mode : Int} (h : knownB mode = false) (x : Int) (c : Bool) : mdX mode x = 0 ∧ mdC mode c = false ∧ mdE mode = 1 := by
  unfold mdX mdC mdE; rw [h]; exact ⟨rfl, rfl, rfl⟩
/-- a new list of two numbers -/
theorem ns2 (w : World) (t : TypeId) (a b : Nat) : Ns .u64 (w.alloc (.cells #[.int .u64 (a : Int), .int .u64 (b : Int)] t)) (some ⟨w.heap.size, 0, none⟩) 2 [a, b] := by
  refine ⟨by simp, by unfold maxLen; omega, fun _ => ⟨w.heap.size, 0, rfl, fun i hi => ?_⟩⟩
  have hi6 : i < 2 := by simpa using hi
  obtain rfl | rfl : i = 0 ∨ i = 1 := by omega
  all_goals (rw [World.cell?_alloc_at (hn := rfl)]; rfl)
theorem two_lt (a b : Nat) (ha : a < 18446744073709551616) (hb : b < 18446744073709551616) : ∀ j, lb [a, b] j < 18446744073709551616 := by
  intro j
  by_cases hj : j < 2
  · obtain rfl | rfl : j = 0 ∨ j = 1 := by omega
    · show (a : Int) < _; omega
    · show (b : Int) < _; omega
  · unfold lb; rw [getD_out _ _ (by simp; omega)]; omega
/-- a cell that holds a value -/
def CV (w : World) (g : Nat) (v : Value) : Prop := w.cell? ⟨g, 0, none⟩ = some v ∧ w.frozen? ⟨g, 0, none⟩ = false
theorem CV.below {w w' : World} {g : Nat} {v : Value} (h : CV w g v) (hb : Below w.heap.size w w') : CV w' g v :=
  ⟨(hb.cell (World.block_lt_of_cell? _ _ h.1)).trans h.1, (hb.frozen (World.block_lt_of_cell? _ _ h.1)).trans h.2⟩
theorem CV.made {w : World} {v : Value} {t : TypeId} : CV (w.alloc (.cells #[v] t)) w.heap.size v := by
  constructor
  · rw [World.cell?_alloc_at (hn := rfl)]; rfl
  · simp
end Go.Ulp
namespace Go.Proofs.YthaelmnblgollaaGreatDoor
open Go.RowKit Go.Ulp
set_option linter.unusedVariables false
set_option linter.unusedSimpArgs false
set_option maxHeartbeats 2000000
set_option maxRecDepth 100000
theorem sumAdd_any (a b : Nat) (ha : a < 18446744073709551616) (hb : b < 18446744073709551616) (mode : Int) (w : World) (hT : Tab 0 w) :
    Calls Tryz.prog 86 #[.int .u64 (a : Int), .int .u64 (b : Int), .int .i64 mode] w (RetX3 w (mdX mode (sumX [a, b] mode)) (mdC mode (sumC [a, b] mode)) (mdE mode)) := by
  have KN := hid (fun w => known_any mode w)
  have AL := hid (fun g w h t => sumAll_any (some ⟨g, 0, none⟩) 2 [a, b] mode w h (two_lt a b ha hb) (by simp) t)
  have N2 := hid (fun t => ns2 w t a b)
  have HT := hid hT
  have hl : [a, b].length = 2 := rfl
  rw [hl] at AL
  cases hk : knownB mode
  · obtain ⟨e1, e2, e3⟩ := md_no hk (sumX [a, b] mode) (sumC [a, b] mode)
    rw [e1, e2, e3]
    rw [hk] at KN
    clear e1 e2 e3 hk hT hl
    go_enter Tryz.func86, Tryz.ntmps86
    go_wp2_with (go_at_call 106; (with_reducible refine (KN.out _).mono ?_); rintro en w1 ⟨rfl, rfl⟩)
    refine bodyPost_ret (by simp [results, Tryz.results86, go_sem]; try rfl) rfl ?_
    exact ⟨rfl, Below.refl _ _⟩
  · obtain ⟨e1, e2, e3⟩ := md_yes hk (sumX [a, b] mode) (sumC [a, b] mode)
    rw [e1, e2, e3]
    rw [hk] at KN
    generalize sumX [a, b] mode = sx at *
    generalize sumC [a, b] mode = sc at *
    clear e1 e2 e3 hk hT hl
    go_enter Tryz.func86, Tryz.ntmps86
    go_wp2_with (first
      | (go_at_call 106; (with_reducible refine (KN.out _).mono ?_); rintro en w1 ⟨rfl, rfl⟩)
      | (go_at_call 174; (with_reducible refine (AL.out _ _ (N2.out _) (HT.out.below (below_alloc _ _))).mono ?_); rintro en w2 ⟨rfl, hb2⟩))
    refine bodyPost_ret (by simp [results, Tryz.results86, go_sem]; try rfl) rfl ?_
    exact ⟨rfl, below_trans (below_alloc _ _) hb2⟩
end Go.Proofs.YthaelmnblgollaaGreatDoor
