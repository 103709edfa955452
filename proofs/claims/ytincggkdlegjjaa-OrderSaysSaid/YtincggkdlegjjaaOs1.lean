/- Order: Above, Inserted, Sort, Equal. -/
import Derived.Test.YtincggkdlegjjaaOs0
import Derived.WalkSpells
import Derived.ArgAppend
import Derived.Lib.BitFns
set_option linter.unusedVariables false
set_option linter.unusedSimpArgs false
namespace Go.Ulp
open Go.RowKit
/-- what a call leaves that hands back a list of numbers of 64 bits -/
def RetL64 (w : World) (L : List Nat) (e : Ending) (w' : World) : Prop := ∃ ao cap, e = .returned (.slice ao L.length cap) ∧ Ns .u64 w' ao cap L ∧ Below w.heap.size w w'
section
variable {P : Program} {w : World}
theorem wpList_push64 {ops : Array Oper} {rest : List Oper} {o : Oper} {a : Act} {Q : Exit → Act → World → Prop} {t e : TypeId} {k : IntKind} {bytes : Nat} (he : ElemInfo P t e k bytes) (hby : bytes ≤ 8) (hgd : o.guard = none) (s x : Operand)
    (ho : o.op = .call { callee := .builtin .append, args := #[s, x], argTypes := #[t, t] })
    (base : Nat) (L : List Nat) (d : Nat) (v : Value) (hs : a.eval s = v) (hown : Own base e k w v L) (ad : Addr) (hx : a.eval x = .slice (some ad) 1 1)
    (hcell : w.cell? ad = some (.int k (d : Int))) (hlen : L.length ≤ 17592186044415) (hbase : base ≤ w.heap.size)
    (h : ∀ v' w', Own base e k w' v' (L ++ [d]) → Below base w w' → wpList P ops Q rest (a.put o.dst v') w') : wpList P ops Q (o :: rest) a w := by
  obtain ⟨ht, i, hi, hz, hsz, hb⟩ := he
  refine wpList_append_own w hgd s x t ho base e i (.int k 0) 1 bytes ht hi hz hsz hb rfl (by decide) v L.length _ hs hown ad 1 1 [.int k (d : Int)] hx rfl ?_ ?_ ?_ ?_ hbase ?_
  · intro j u hj
    match j, hj with
    | 0, hj => simp at hj; subst hj; simpa [Addr.add] using hcell
  · intro u hu; simp at hu; subst hu; rfl
  · unfold maxLen; omega
  · have : (L.length + 1) * bytes ≤ (L.length + 1) * 8 := Nat.mul_le_mul_left _ hby
    omega
  · intro v' w' h1 h2 _
    refine h v' w' ?_ ?_
    · unfold Own nums; rw [List.length_append, List.map_append]; exact h1
    · exact ⟨h2.os, h2.tape, h2.output, h2.size, fun b hbk => h2.block b (by omega) (fun e => by have := (hown.lt b e.symm).1; omega)⟩
end
end Go.Ulp
namespace Go.Proofs.Ytincggkdlegjjaa
open Go.RowKit Go.Ulp
set_option linter.unusedVariables false
set_option linter.unusedSimpArgs false
set_option maxHeartbeats 1600000
set_option maxRecDepth 100000
theorem ei_u64 : ElemInfo Try.prog 23 22 .u64 8 := ElemInfo.mk Try.underlying23 (by kernel_rfl)
theorem oMinus_any (x : Int) (h0 : 0 ≤ x) (h1 : x < 18446744073709551616) (w : World) :
    Calls Try.prog 18 #[.int .u64 x] w fun e w' => e = .returned (.bool (negB x)) ∧ w = w' := by
  go_enter Try.func18, Try.ntmps18
  go_wp2_with fail
  go_ret
  exact ⟨ret_bool rfl, rfl⟩
theorem above_any (x y : Int) (hx : U64 x) (hy : U64 y) (w : World) :
    Calls Try.prog 7 #[.int .u64 x, .int .u64 y] w fun e w' => e = .returned (.bool (abvB x y)) ∧ w = w' := by
  have MX := hid (fun w => oMinus_any x hx.1 hx.2 w)
  have MY := hid (fun w => oMinus_any y hy.1 hy.2 w)
  have HT := hid (abvB_tell x y hx hy)
  generalize abvB x y = r at *
  generalize negB x = sx at *
  generalize negB y = sy at *
  obtain ⟨x0, x1⟩ := hx
  obtain ⟨y0, y1⟩ := hy
  cases sx <;> cases sy
  all_goals
    go_enter Try.func7, Try.ntmps7
    go_wp2_with (first
      | (go_at_call 18; (with_reducible refine (MX.out _).mono ?_); rintro en w1 ⟨rfl, rfl⟩)
      | (go_at_call 18; (with_reducible refine (MY.out _).mono ?_); rintro en w1 ⟨rfl, rfl⟩))
    go_ret
    exact ⟨ret_bool (by rw [HT.out]; simp), rfl⟩
theorem inserted_any (ao : Option Addr) (cap : Nat) (L : List Nat) (x : Nat) (w : World) (hN : Ns .u64 w ao cap L) (hL : AllLt 18446744073709551616 L) (hx : x < 18446744073709551616) (hlen : L.length ≤ 17592186044414) :
    Calls Try.prog 8 #[.slice ao L.length cap, .int .u64 (x : Int)] w (RetL64 w (insK x L)) := by
  have hcap := hN.1
  have hcap2 := hN.2.1
  have H3 := hid hN.2.2
  have HLt := hid hL
  unfold maxLen at hcap2
  clear hN hL
  have AB := hid (fun (y : Nat) (hy : y < 18446744073709551616) w => above_any (y : Int) (x : Int) ⟨by omega, by omega⟩ ⟨by omega, by omega⟩ w)
  have HLen := hid (insK_len x L)
  go_enter Try.func8, Try.ntmps8
  go_wp2_with fail
  go_loopw [5, 6, 8, 11] (fun o dn s8 i wr => ∃ (k : Nat) (Q : List Nat) (b : Bool), k ≤ L.length ∧ i = .int .i64 (k : Int) ∧ dn = .bool b ∧ Q ++ tailK b x (L.drop k) = insK x L ∧ Own w.heap.size 22 .u64 wr o Q ∧ Below w.heap.size w wr) (fun _ _ _ i _ => L.length - (intOf i).toNat)
  case atStart => exact ⟨0, [], false, by omega, rfl, rfl, rfl, Own.nil, Below.refl _ _⟩
  case round =>
    obtain ⟨k, Q, b, hk, rfl, rfl, hq, hown, hb⟩ := hrel
    have hql : Q.length ≤ L.length + 1 := by
      have h9 := congrArg List.length hq
      rw [List.length_append, HLen.out] at h9; omega
    have hbs := hb.size
    by_cases hlt : k < L.length
    · obtain ⟨b0, o0, rfl, hc0⟩ := H3.out (by omega)
      obtain ⟨y, hy⟩ : ∃ y, y = L[k] := ⟨_, rfl⟩
      have hdr : L.drop k = y :: L.drop (k + 1) := by rw [hy]; exact List.drop_eq_getElem_cons hlt
      have hy1 : y < 18446744073709551616 := by
        rw [hy, show L[k] = L.getD k 0 by rw [List.getD_eq_getElem?_getD, List.getElem?_eq_getElem hlt]; rfl]
        exact HLt.out.getD (by omega) k
      have hcell : wr.cell? ⟨b0, o0 + k, none⟩ = some (.int .u64 (y : Int)) := by
        have h1 := hc0 k hlt
        have h2 := hb.cell (p := ⟨b0, o0 + k, none⟩) (World.block_lt_of_cell? w _ h1)
        rw [h2, h1, hy]
        unfold lb
        rw [List.getD_eq_getElem?_getD, List.getElem?_eq_getElem hlt]; rfl
      have ABy := hid (fun w => AB.out y hy1 w)
      rw [hdr] at hq
      have HQ := hid hq
      have HR := hid (show abvB (y : Int) (x : Int) = abvB (y : Int) (x : Int) from rfl)
      have HQL := hid hql
      clear hc0 hdr hy hq hy1 AB hx
      cases b
      · have HQ3 := hid (show Q.length + 1 ≤ L.length by
          have h9 := congrArg List.length HQ.out
          rw [List.length_append, HLen.out, show tailK false x (y :: L.drop (k + 1)) = insK x (y :: L.drop (k + 1)) from rfl, insK_len, List.length_cons] at h9
          omega)
        generalize hr : abvB (y : Int) (x : Int) = r at ABy
        have HA := hid hr
        clear hr
        cases r
        · go_wp2_with (first
            | (go_at_call 7; (with_reducible refine (ABy.out _).mono ?_); rintro en w1 ⟨rfl, rfl⟩)
            | (at_builtin; refine wpList_push64 ei_u64 (by omega) rfl _ _ rfl w.heap.size Q y _ rfl (Own.alloc hown _) ⟨wr.heap.size, 0, none⟩ rfl (cell_push _ _ _ _ _ rfl) (by have := HQL.out; omega) (by simp; omega) ?_; intro v1 w1 hown1 hb1))
          go_roundw
          case rel => exact ⟨k + 1, Q ++ [y], false, by omega, by go_num, rfl, tail_pass HQ.out HA.out, hown1, (hb.trans ((below_alloc wr _).mono hb.size)).trans hb1⟩
          case measure => simp [intOf]; omega
        · go_wp2_with (first
            | (go_at_call 7; (with_reducible refine (ABy.out _).mono ?_); rintro en w1 ⟨rfl, rfl⟩)
            | (at_builtin; refine wpList_push64 ei_u64 (by omega) rfl _ _ rfl w.heap.size Q x _ rfl (Own.alloc hown _) ⟨wr.heap.size, 0, none⟩ rfl (cell_push _ _ _ _ _ rfl) (by have := HQL.out; omega) (by simp; omega) ?_; intro v1 w1 hown1 hb1; have hs1 := hb1.size; try simp at hs1)
            | (at_builtin; refine wpList_push64 ei_u64 (by omega) rfl _ _ rfl w.heap.size (Q ++ [x]) y _ rfl (Own.alloc hown1 _) ⟨w1.heap.size, 0, none⟩ rfl (cell_push _ _ _ _ _ rfl) (by have := HQ3.out; simp; omega) (by simp; omega) ?_; intro v2 w2 hown2 hb2))
          go_roundw
          case rel => exact ⟨k + 1, Q ++ [x] ++ [y], true, by omega, by go_num, rfl, tail_put HQ.out HA.out, hown2, (((hb.trans ((below_alloc wr _).mono hb.size)).trans hb1).trans ((below_alloc w1 _).mono (by omega))).trans hb2⟩
          case measure => simp [intOf]; omega
      · go_wp2_with (first
          | (at_builtin; refine wpList_push64 ei_u64 (by omega) rfl _ _ rfl w.heap.size Q y _ rfl (Own.alloc hown _) ⟨wr.heap.size, 0, none⟩ rfl (cell_push _ _ _ _ _ rfl) (by have := HQL.out; omega) (by simp; omega) ?_; intro v1 w1 hown1 hb1))
        go_roundw
        case rel => exact ⟨k + 1, Q ++ [y], true, by omega, by go_num, rfl, tail_done HQ.out, hown1, (hb.trans ((below_alloc wr _).mono hb.size)).trans hb1⟩
        case measure => simp [intOf]; omega
    · have hdr : L.drop k = [] := List.drop_eq_nil_of_le (by omega)
      rw [hdr] at hq
      have HQL := hid hql
      cases b
      · have HQ := hid (tail_end hq)
        clear hq hdr
        go_wp2_with (at_builtin; refine wpList_push64 ei_u64 (by omega) rfl _ _ rfl w.heap.size Q x _ rfl (Own.alloc hown _) ⟨wr.heap.size, 0, none⟩ rfl (cell_push _ _ _ _ _ rfl) (by have := HQL.out; omega) (by simp; omega) ?_; intro v1 w1 hown1 hb1)
        obtain ⟨ao1, cap1, rfl, hN1⟩ := hown1.ns
        go_wp2_with fail
        go_ret
        rw [← HQ.out]
        exact ⟨ao1, cap1, rfl, hN1, (hb.trans ((below_alloc wr _).mono hb.size)).trans hb1⟩
      · have HQ := hid (tail_end2 hq)
        clear hq hdr
        obtain ⟨ao1, cap1, rfl, hN1⟩ := hown.ns
        go_wp2_with fail
        go_ret
        rw [← HQ.out]
        exact ⟨ao1, cap1, rfl, hN1, hb⟩
end Go.Proofs.Ytincggkdlegjjaa
