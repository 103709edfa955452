/- Rounded sums, and how a law holds them against what is to be told. -/
import Derived.Test.YteaakbeemhmciaaDoorSu1
import Derived.Test.YteaakbeemhmciaaDoorSu2
set_option linter.unusedVariables false
set_option linter.unusedSimpArgs false
namespace Go.Ulp
open Go.RowKit
/-- what is told of a mode -/
def mdX (mode x : Int) : Int := if knownB mode = true then x else 0
def mdC (mode : Int) (c : Bool) : Bool := if knownB mode = true then c else false
def mdE (mode : Int) : Int := if knownB mode = true then 0 else 1
theorem md_yes {mode : Int} (h : knownB mode = true) (x : Int) (c : Bool) : mdX mode x = x ∧ mdC mode c = c ∧ mdE mode = 0 := by
  unfold mdX mdC mdE; rw [if_pos h, if_pos h, if_pos h]; exact ⟨rfl, rfl, rfl⟩
theorem md_no {mode : Int} (h : knownB mode = false) (x : Int) (c : Bool) : mdX mode x = 0 ∧ mdC mode c = false ∧ mdE mode = 1 := by
  unfold mdX mdC mdE; rw [h]; exact ⟨rfl, rfl, rfl⟩
/-- a new list of two numbers -/
theorem ns2 (w : World) (t : TypeId) (a b : Nat) : Ns .u64 (w.alloc (.cells #[.int .u64 (a : Int), .int .u64 (b : Int)] t)) (some ⟨w.heap.size, 0, none⟩) 2 [a, b] := by
  refine ⟨by simp, by unfold maxLen; omega, fun _ => ⟨w.heap.size, 0, rfl, fun i hi => ?_⟩⟩
  have hi6 : i < 2 := by simpa using hi
  obtain rfl | rfl : i = 0 ∨ i = 1 := by omega
  all_goals (rw [World.cell?_alloc_at (hn := rfl)]; rfl)
theorem two_lt (a b : Nat) (ha : a < 18446744073709551616) (hb : b < 18446744073709551616) : ∀ j, lb [a, b] j < 18446744073709551616 := by
  intro j
  by_cases hj : j < 2
  · obtain rfl | rfl : j = 0 ∨ j = 1 := by omega
    · show (a : Int) < _; omega
    · show (b : Int) < _; omega
  · unfold lb; rw [getD_out _ _ (by simp; omega)]; omega
/-- a cell that holds a value -/
def CV (w : World) (g : Nat) (v : Value) : Prop := w.cell? ⟨g, 0, none⟩ = some v ∧ w.frozen? ⟨g, 0, none⟩ = false
theorem CV.below {w w' : World} {g : Nat} {v : Value} (h : CV w g v) (hb : Below w.heap.size w w') : CV w' g v :=
  ⟨(hb.cell (World.block_lt_of_cell? _ _ h.1)).trans h.1, (hb.frozen (World.block_lt_of_cell? _ _ h.1)).trans h.2⟩
theorem CV.made {w : World} {v : Value} {t : TypeId} : CV (w.alloc (.cells #[v] t)) w.heap.size v := by
  constructor
  · rw [World.cell?_alloc_at (hn := rfl)]; rfl
  · simp
end Go.Ulp
namespace Go.Proofs.YteaakbeemhmciaaDoor
open Go.RowKit Go.Ulp
set_option linter.unusedVariables false
set_option linter.unusedSimpArgs false
set_option maxHeartbeats 2000000
set_option maxRecDepth 100000
theorem told_md (x : Int) (ch : Bool) (mode : Int) (fn : Nat) (caps : Array Value) (w : World) (hfn : ∀ w, Sem.run Tryd.prog (callFunc fn caps) w = .ok (.enter fn caps) w) (hC : knownB mode = true → ∀ w', Below w.heap.size w w' → Calls Tryd.prog fn caps w' (RetX w' x ch)) :
    Calls Tryd.prog 55 #[.int .u64 (mdX mode x), .bool (mdC mode ch), .int .i64 (mdE mode), .int .i64 mode, .func (.func fn) #[] caps] w fun e w' => e = .returned (.bool true) ∧ Below w.heap.size w w' := by
  have BT := hid (show ∀ w, Calls Tryd.prog 27 #[.int .i64 mode, .int .i64 0, .int .i64 4] w fun e w' => e = .returned (.bool (knownB mode)) ∧ w = w' from fun w => between_any mode 0 4 w)
  cases hk : knownB mode
  · obtain ⟨e1, e2, e3⟩ := md_no hk x ch
    rw [e1, e2, e3]
    rw [hk] at BT
    clear e1 e2 e3 hC hk
    go_enter Tryd.func55, Tryd.ntmps55
    go_wp2_with (go_at_call 27; (with_reducible refine (BT.out _).mono ?_); rintro en w1 ⟨rfl, rfl⟩)
    go_ret
    exact ⟨rfl, Below.refl _ _⟩
  · obtain ⟨e1, e2, e3⟩ := md_yes hk x ch
    rw [e1, e2, e3]
    have HC := hid (hC hk w (Below.refl _ _))
    rw [hk] at BT
    clear e1 e2 e3 hC hk
    go_enter Tryd.func55, Tryd.ntmps55
    go_wp2_with (first
      | (go_at_call 27; (with_reducible refine (BT.out _).mono ?_); rintro en w1 ⟨rfl, rfl⟩)
      | ((with_reducible refine HC.out.mono ?_); rintro en w2 ⟨rfl, hb2⟩))
    go_ret
    exact ⟨ret_bool (by simp), hb2⟩
theorem sumAdd_any (a b : Nat) (ha : a < 18446744073709551616) (hb : b < 18446744073709551616) (mode : Int) (w : World) (hT : Tab 0 w) :
    Calls Tryd.prog 67 #[.int .u64 (a : Int), .int .u64 (b : Int), .int .i64 mode] w (RetX3 w (mdX mode (sumX [a, b] mode)) (mdC mode (sumC [a, b] mode)) (mdE mode)) := by
  have KN := hid (fun w => known_any mode w)
  have AL := hid (fun g w h t => sumAll_any (some ⟨g, 0, none⟩) 2 [a, b] mode w h (two_lt a b ha hb) (by simp) t)
  have N2 := hid (fun t => ns2 w t a b)
  have HT := hid hT
  have hl : [a, b].length = 2 := rfl
  rw [hl] at AL
  cases hk : knownB mode
  · obtain ⟨e1, e2, e3⟩ := md_no hk (sumX [a, b] mode) (sumC [a, b] mode)
    rw [e1, e2, e3]
    rw [hk] at KN
    clear e1 e2 e3 hk hT hl
    go_enter Tryd.func67, Tryd.ntmps67
    go_wp2_with (go_at_call 108; (with_reducible refine (KN.out _).mono ?_); rintro en w1 ⟨rfl, rfl⟩)
    refine bodyPost_ret (by simp [results, Tryd.results67, go_sem]; try rfl) rfl ?_
    exact ⟨rfl, Below.refl _ _⟩
  · obtain ⟨e1, e2, e3⟩ := md_yes hk (sumX [a, b] mode) (sumC [a, b] mode)
    rw [e1, e2, e3]
    rw [hk] at KN
    generalize sumX [a, b] mode = sx at *
    generalize sumC [a, b] mode = sc at *
    clear e1 e2 e3 hk hT hl
    go_enter Tryd.func67, Tryd.ntmps67
    go_wp2_with (first
      | (go_at_call 108; (with_reducible refine (KN.out _).mono ?_); rintro en w1 ⟨rfl, rfl⟩)
      | (go_at_call 135; (with_reducible refine (AL.out _ _ (N2.out _) (HT.out.below (below_alloc _ _))).mono ?_); rintro en w2 ⟨rfl, hb2⟩))
    refine bodyPost_ret (by simp [results, Tryd.results67, go_sem]; try rfl) rfl ?_
    exact ⟨rfl, below_trans (below_alloc _ _) hb2⟩
theorem sumSub_any (a b : Nat) (ha : a < 18446744073709551616) (hb : b < 18446744073709551616) (nb : Nat) (hn : (nb : Int) = negOf (b : Int)) (mode : Int) (w : World) (hT : Tab 0 w) :
    Calls Tryd.prog 68 #[.int .u64 (a : Int), .int .u64 (b : Int), .int .i64 mode] w (RetX3 w (mdX mode (sumX [a, nb] mode)) (mdC mode (sumC [a, nb] mode)) (mdE mode)) := by
  have NG := hid (show ∀ w, Calls Tryd.prog 136 #[.int .u64 (b : Int)] w fun e w' => e = .returned (.int .u64 (nb : Int)) ∧ w = w' from fun w => by rw [hn]; exact neg_any (b : Int) (by omega) (by omega) w)
  have hnb := negOf_bd (b : Int) (by omega) (by omega)
  rw [← hn] at hnb
  have AD := hid (fun w t => sumAdd_any a nb ha (by omega) mode w t)
  have HT := hid hT
  generalize mdX mode (sumX [a, nb] mode) = sx at *
  generalize mdC mode (sumC [a, nb] mode) = sc at *
  generalize mdE mode = se at *
  clear hnb hn hT
  go_enter Tryd.func68, Tryd.ntmps68
  go_wp2_with (first
    | (go_at_call 136; (with_reducible refine (NG.out _).mono ?_); rintro en w1 ⟨rfl, rfl⟩)
    | (go_at_call 67; (with_reducible refine (AD.out _ HT.out).mono ?_); rintro en w2 ⟨rfl, hb2⟩))
  refine bodyPost_ret (by simp [results, Tryd.results68, go_sem]; try rfl) rfl ?_
  exact ⟨rfl, hb2⟩
theorem sumAllP_any (ao : Option Addr) (cap : Nat) (L : List Nat) (mode : Int) (w : World) (h : Ns .u64 w ao cap L) (hL : ∀ j, lb L j < 18446744073709551616) (hT : Tab 0 w) :
    Calls Tryd.prog 72 #[.slice ao L.length cap, .int .i64 mode] w (RetX3 w (if 200 < L.length then 0 else mdX mode (sumX L mode)) (if 200 < L.length then false else mdC mode (sumC L mode)) (if knownB mode = true ∧ 200 < L.length then 2 else mdE mode)) := by
  have KN := hid (fun w => known_any mode w)
  have hcap := h.1
  have hcap2 := h.2.1
  unfold maxLen at hcap2
  have H := hid h
  have HT := hid hT
  have HL := hid hL
  have HX0 := hid (sumAll_any ao cap L mode)
  clear h hT hL
  cases hk : knownB mode
  · obtain ⟨e1, e2, e3⟩ := md_no hk (sumX L mode) (sumC L mode)
    have e4 : (if 200 < L.length then 0 else mdX mode (sumX L mode)) = 0 := by rw [e1]; split <;> rfl
    have e5 : (if 200 < L.length then false else mdC mode (sumC L mode)) = false := by rw [e2]; split <;> rfl
    rw [e4, e5, e3, if_neg (by simp)]
    rw [hk] at KN
    clear e1 e2 e3 e4 e5 hk
    go_enter Tryd.func72, Tryd.ntmps72
    go_wp2_with (go_at_call 108; (with_reducible refine (KN.out _).mono ?_); rintro en w1 ⟨rfl, rfl⟩)
    refine bodyPost_ret (by simp [results, Tryd.results72, go_sem]; try rfl) rfl ?_
    exact ⟨rfl, Below.refl _ _⟩
  · obtain ⟨e1, e2, e3⟩ := md_yes hk (sumX L mode) (sumC L mode)
    rw [e1, e2, e3]
    rw [hk] at KN
    by_cases hl : 200 < L.length
    · rw [if_pos hl, if_pos hl, if_pos ⟨rfl, hl⟩]
      have hl2 : (200 : Int) < (L.length : Int) := by omega
      clear e1 e2 e3 hk hl HX0
      go_enter Tryd.func72, Tryd.ntmps72
      go_wp2_with (go_at_call 108; (with_reducible refine (KN.out _).mono ?_); rintro en w1 ⟨rfl, rfl⟩)
      refine bodyPost_ret (by simp [results, Tryd.results72, go_sem]; try rfl) rfl ?_
      exact ⟨rfl, Below.refl _ _⟩
    · rw [if_neg hl, if_neg hl, if_neg (fun h => hl h.2)]
      have AL := hid (fun w h t => HX0.out w h HL.out (by omega) t)
      have hl2 : ¬ (200 : Int) < (L.length : Int) := by omega
      generalize sumX L mode = sx at *
      generalize sumC L mode = sc at *
      clear e1 e2 e3 hk hl HX0
      go_enter Tryd.func72, Tryd.ntmps72
      go_wp2_with (first
        | (go_at_call 108; (with_reducible refine (KN.out _).mono ?_); rintro en w1 ⟨rfl, rfl⟩)
        | (go_at_call 135; (with_reducible refine (AL.out _ H.out HT.out).mono ?_); rintro en w2 ⟨rfl, hb2⟩))
      refine bodyPost_ret (by simp [results, Tryd.results72, go_sem]; try rfl) rfl ?_
      exact ⟨rfl, hb2⟩
end Go.Proofs.YteaakbeemhmciaaDoor
