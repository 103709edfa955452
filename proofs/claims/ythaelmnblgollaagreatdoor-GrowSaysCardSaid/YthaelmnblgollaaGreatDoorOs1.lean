/- Order: Above, Inserted, Sort, Equal. -/
import Derived.Test.YthaelmnblgollaaGreatDoorOs0
import Derived.WalkSpells
import Derived.ArgAppend
import Derived.Lib.BitFns
set_option linter.unusedVariables false
set_option linter.unusedSimpArgs false
namespace Go.Ulp
open Go.RowKit
/-- what a call leaves that hands back a list of numbers of 64 bits -/
def RetL64 (w : World) (L : List Nat) (e : Ending) (w' : World) : Prop := ∃ ao cap, e = .returned (.slice ao L.length cap) ∧ Ns .u64 w' ao cap L ∧ Below w.heap.size w w'
section
variable {P : Program} {w : World}
theorem wpList_push64 {ops : Array Oper} {rest : List Oper} {o : Oper} {a : Act} {Q : Exit → Act → World → Prop} {t e : TypeId} {k : IntKind} {bytes : Nat} (he : ElemInfo P t e k bytes) (hby : bytes ≤ 8) (hgd : o.guard = none) (s x : Operand)
    (ho : o.op = .call { callee := .builtin .append, args := #[s, x], argTypes := #[t, t] })
    (base : Nat) (L : List Nat) (d : Nat) (v : Value) (hs : a.eval s = v) (hown : Own base e k w v L) (ad : Addr) (hx : a.eval x = .slice (some ad) 1 1)
    (hcell : w.cell? ad = some (.int k (d : Int))) (hlen : L.length ≤ 17592186044415) (hbase : base ≤ w.heap.size)
    (h : ∀ v' w', Own base e k w' v' (L ++ [d]) → Below base w w' → wpList P ops Q rest (a.put o.dst v') w') : wpList P ops Q (o :: rest) a w := by
  obtain ⟨ht, i, hi, hz, hsz, hb⟩ := he
  refine wpList_append_own w hgd s x t ho base e i (.int k 0) 1 bytes ht hi hz hsz hb rfl (by decide) v L.length _ hs hown ad 1 1 [.int k (d : Int)] hx rfl ?_ ?_ ?_ ?_ hbase ?_
  · intro j u hj
    match j, hj with
    | 0, hj => simp at hj; subst hj; simpa [Addr.add] using hcell
  · intro u hu; simp at hu; subst hu; rfl
  · unfold maxLen; omega
  · have : (L.length + 1) * bytes ≤ (L.length + 1) * 8 := Nat.mul_le_mul_left _ hby
    omega
  · intro v' w' h1 h2 _
    refine h v' w' ?_ ?_
    · unfold Own nums; rw [List.length_append, List.map_append]; exact h1
    · exact ⟨h2.os, h2.tape, h2.output, h2.size, fun b hbk => h2.block b (by omega) (fun e => by have := (hown.lt b e.symm).1; omega)⟩
end
end Go.Ulp
namespace Go.Proofs.YthaelmnblgollaaGreatDoor
open Go.RowKit Go.Ulp
set_option linter.unusedVariables false
set_option linter.unusedSimpArgs false
set_option maxHeartbeats 1600000
set_option maxRecDepth 100000
theorem ei_u64 : ElemInfo Tryz.prog 22 23 .u64 8 := ElemInfo.mk Tryz.underlying22 (by kernel_rfl)
theorem oMinus_any (x : Int) (h0 : 0 ≤ x) (h1 : x < 18446744073709551616) (w : World) :
    Calls Tryz.prog 96 #[.int .u64 x] w fun e w' => e = .returned (.bool (negB x)) ∧ w = w' := by
  go_enter Tryz.func96, Tryz.ntmps96
  go_wp2_with fail
  go_ret
  exact ⟨ret_bool rfl, rfl⟩
end Go.Proofs.YthaelmnblgollaaGreatDoor
