/- nat: quotients and remainders. -/
import Derived.Test.YteaakbeemhmciaaDoorNat8
import Derived.WalkSpells
import Derived.Test.YteaakbeemhmciaaDoorStep


namespace Go.Ulp
open Go.RowKit
theorem run_eql_slice_nil {P : Program} (w : World) (t e : TypeId) (a : Option Addr) (n c n' c' : Nat) (h : P.underlying t = some (.slice e)) :
    (binOp .eql t (.slice a n c) (.slice none n' c')).run P w = .ok (.bool a.isNone) w := Lib.run_eql_slice_nil w t e a n c n' c' h
theorem own_empty (w : World) (k : IntKind) (e : TypeId) : Own w.heap.size e k (w.alloc (.cells #[] e)) (.slice (some ⟨w.heap.size, 0, none⟩) 0 0) [] := by
  unfold Own
  exact ⟨by simp [nums], .inr ⟨w.heap.size, 0, #[], rfl, Nat.le_refl _, heap_alloc_new w _, Nat.le_refl _, by unfold maxLen; omega, by simp, by simp [nums]⟩⟩
/-- what a call leaves that hands back two natural numbers -/
def RetNN (w : World) (q r : Nat) (e : Ending) (w' : World) : Prop :=
  ∃ ao cap bo cbp, e = .returned (.tuple #[.slice ao (limbs q).length cap, .slice bo (limbs r).length cbp]) ∧ Ns .u32 w' ao cap (limbs q) ∧ Ns .u32 w' bo cbp (limbs r) ∧ Below w.heap.size w w'
def RetNc (w : World) (n : Nat) (e : Ending) (w' : World) : Prop :=
  ∃ ao cap, e = .returned (.slice ao (limbs n).length cap) ∧ Ns .u32 w' ao cap (limbs n) ∧ Below w.heap.size w w'
end Go.Ulp
namespace Go.Proofs.YteaakbeemhmciaaDoor
open Go.RowKit Go.Ulp
set_option linter.unusedVariables false
set_option linter.unusedSimpArgs false
set_option maxHeartbeats 1600000
set_option maxRecDepth 100000
theorem clone_any (ao : Option Addr) (c : Nat) (n : Nat) (w : World) (h : Ns .u32 w ao c (limbs n)) (hl : (limbs n).length ≤ 4294967296) :
    Calls Tryd.prog 162 #[.slice ao (limbs n).length c] w fun e w' => RetNc w n e w' := by
  cases ao with
  | none =>
    have hn : limbs n = [] := by
      rcases Nat.eq_zero_or_pos (limbs n).length with h0 | h0
      · exact List.length_eq_zero_iff.1 h0
      · obtain ⟨_, _, e, _⟩ := h.2.2 h0; cases e
    have HN := hid hn
    clear hn
    have hq := fun w => run_eql_slice_nil (P := Tryd.prog) w 23 34 none (limbs n).length c 0 0 ei_u32.1
    go_enter Tryd.func162, Tryd.ntmps162
    go_wp2_with fail
    go_ret
    exact ⟨none, 0, by rw [HN.out]; rfl, by rw [HN.out]; exact Ns.nil, Below.refl _ _⟩
  | some a =>
    have hq := fun w => run_eql_slice_nil (P := Tryd.prog) w 23 34 (some a) (limbs n).length c 0 0 ei_u32.1
    go_enter Tryd.func162, Tryd.ntmps162
    go_wp2_with (at_builtin; go_loud (refine wpList_pushall ei_u32 (by omega) rfl _ _ rfl w.heap.size [] (limbs n) _ rfl (own_empty w .u32 34) _ _ _ rfl rfl (h.below (below_alloc _ _)) (by simp; omega) (by simp) ?_; intro v1 w1 hown1 hb1; obtain ⟨ao1, cap1, rfl, hN1⟩ := hown1.ns))
    go_ret
    exact ⟨ao1, cap1, rfl, hN1, (below_alloc _ _).trans hb1⟩
end Go.Proofs.YteaakbeemhmciaaDoor
