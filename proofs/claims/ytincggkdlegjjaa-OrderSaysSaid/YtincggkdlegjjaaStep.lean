/- Appending a list to a slice of the call's own, as one step of a region that draws its order; variables of the reference's numbers. -/
import Derived.Test.YtincggkdlegjjaaZ2
import Derived.Deep.RegionWith
import Derived.Maps.AppendAt
import Derived.Deep.RegionLaw
namespace Go.Ulp
open Go.RowKit
theorem bcellB {B : Nat} {W w1 : World} (hb : Below B W w1) : (∀ b o, b < B → w1.cell? ⟨b, o, none⟩ = W.cell? ⟨b, o, none⟩) ∧ (∀ b o, b < B → w1.frozen? ⟨b, o, none⟩ = W.frozen? ⟨b, o, none⟩) :=
  ⟨fun b o h => hb.cell (p := ⟨b, o, none⟩) h, fun b o h => hb.frozen (p := ⟨b, o, none⟩) h⟩
theorem dec_add_step {q c L M k x y d c' : Nat} (h : q + 10000 ^ k * c = L + M) (hd : d + 10000 * c' = c + x + y) : (q + 10000 ^ k * d) + 10000 ^ (k + 1) * c' = (L + 10000 ^ k * x) + (M + 10000 ^ k * y) := by
  have e := congrArg (fun z => 10000 ^ k * z) hd
  simp only [Nat.mul_add] at e
  rw [Nat.pow_succ, Nat.mul_assoc]; omega
theorem lb_dec (L : List Nat) (h : Dec L) (k : Nat) : L.getD k 0 < 10000 := h.getD (by omega) k
theorem getD_take_le (L : List Nat) (k : Nat) (h : k ≤ L.length) (B : Nat) : val B (L.take (k + 1)) = val B (L.take k) + B ^ k * L.getD k 0 := by
  by_cases hk : k < L.length
  · exact val_take_succ B L k hk
  · rw [List.take_of_length_le (by omega), List.take_of_length_le (by omega), getD_out _ _ (by omega)]; simp
theorem take_step (L : List Nat) (k : Nat) (B : Nat) : val B (L.take (k + 1)) = val B (L.take k) + B ^ k * L.getD k 0 := by
  by_cases hk : k < L.length
  · exact val_take_succ B L k hk
  · rw [List.take_of_length_le (by omega), List.take_of_length_le (by omega), getD_out _ _ (by omega)]; simp
end Go.Ulp
namespace Go.Proofs.Ytincggkdlegjjaa
open Go.RowKit Go.Ulp
set_option linter.unusedVariables false
set_option linter.unusedSimpArgs false
set_option maxHeartbeats 1000000
set_option maxRecDepth 100000
end Go.Proofs.Ytincggkdlegjjaa
namespace Go.Ulp
open Go.RowKit
theorem dec_sub_step {q b L M k x y d b' : Nat} (h : L + 10000 ^ k * b = q + M) (hd : d + b + y = x + 10000 * b') : (L + 10000 ^ k * x) + 10000 ^ (k + 1) * b' = (q + 10000 ^ k * d) + (M + 10000 ^ k * y) := by
  have e := congrArg (fun z => 10000 ^ k * z) hd
  simp only [Nat.mul_add] at e
  rw [Nat.pow_succ, Nat.mul_assoc]; omega
theorem dec_sub_end {m n q b k : Nat} (h : m + 10000 ^ k * b = q + n) (hb : b ≤ 1) (hq : q < 10000 ^ k) (hn : n ≤ m) : q = m - n := by
  have : b = 0 ∨ b = 1 := by omega
  rcases this with rfl | rfl
  · omega
  · rw [Nat.mul_one] at h; omega
theorem dval_lt (L : List Nat) (h : Dec L) : dval L < 10000 ^ L.length := val_lt _ L h
theorem zl_len_le {x y : Int} (h : x.natAbs ≤ y.natAbs) : (zl x).length ≤ (zl y).length := digs_len_mono _ (by omega) h
end Go.Ulp
namespace Go.Proofs.Ytincggkdlegjjaa
open Go.RowKit Go.Ulp
set_option linter.unusedVariables false
set_option linter.unusedSimpArgs false
set_option maxHeartbeats 1000000
set_option maxRecDepth 100000
end Go.Proofs.Ytincggkdlegjjaa
namespace Go.Ulp
theorem ZL.drew {t : TypeId} {w : World} {g : Nat} {n : Bool} {v : Value} (h : ZL t w g n v) : ZL t w.drew g n v := h
theorem ZL.drewN {t : TypeId} {w : World} {g : Nat} {n : Bool} {v : Value} (h : ZL t w g n v) (k : Nat) : ZL t (w.drewN k) g n v := h
end Go.Ulp
namespace Go.Proofs.Ytincggkdlegjjaa
open Go.RowKit Go.Ulp
set_option linter.unusedVariables false
set_option linter.unusedSimpArgs false
set_option maxHeartbeats 1000000
set_option maxRecDepth 100000
end Go.Proofs.Ytincggkdlegjjaa
set_option linter.unusedVariables false
set_option linter.unusedSimpArgs false
namespace Go.Ulp
open Go.RowKit
theorem below_al {w w' : World} (h : Below w.heap.size w w') (o : Obj) : Below w.heap.size w (w'.alloc o) := h.alloc h.size o
section
variable {P : Program} {w : World}
theorem run_push_nil {t ty e : TypeId} {k : IntKind} {bytes : Nat} (he : ElemInfo P t e k bytes) (base : Nat) (v : Value) (L : List Nat) (hown : Own base e k w v L) (ao : Option Addr) (c : Nat) (hao : ao = none) :
    (Builtin.append_ #[t, t] ty #[v, .slice ao 0 c]).run P w = .ok v w := by
  subst hao
  obtain ⟨ht, i, hi, hz, hsz, hb⟩ := he
  rcases hown.2 with ⟨rfl, _⟩ | ⟨g, cap, cur, rfl, _, _, hnc, _⟩
  · simp [Builtin.append_, run_underlying ht, sizeOf, typeInfo, hi, Builtin.lenOf, Builtin.firstCells]
  · simp [Builtin.append_, run_underlying ht, sizeOf, typeInfo, hi, Builtin.lenOf, Builtin.firstCells, hnc, storeCells]
theorem run_push {t ty e : TypeId} {k : IntKind} {bytes : Nat} (he : ElemInfo P t e k bytes) (hby : bytes ≤ 8) (base : Nat) (v : Value) (L M : List Nat) (hown : Own base e k w v L) (ao : Option Addr) (c : Nat) (hN : Ns k w ao c M) (hlen : L.length + M.length ≤ 8796093022207) (hbase : base ≤ w.heap.size) :
    ∃ v' w', (Builtin.append_ #[t, t] ty #[v, .slice ao M.length c]).run P w = .ok v' w' ∧ Own base e k w' v' (L ++ M) ∧ Below base w w' := by
  cases ao with
  | none =>
    have hM : M = [] := by
      rcases Nat.eq_zero_or_pos M.length with h | h
      · exact List.length_eq_zero_iff.1 h
      · obtain ⟨_, _, e, _⟩ := hN.2.2 h; cases e
    subst hM
    exact ⟨v, w, run_push_nil he base v L hown none c rfl, by rw [List.append_nil]; exact hown, Below.refl _ _⟩
  | some ad =>
    have hb : (L.length + M.length) * bytes ≤ 140737488355328 := by
      have : (L.length + M.length) * bytes ≤ (L.length + M.length) * 8 := Nat.mul_le_mul_left _ hby
      omega
    obtain ⟨ht, i, hi, hz, hsz, hbb⟩ := he
    have hcells : ∀ j u, (nums k M)[j]? = some u → w.cell? (ad.add j) = some u := by
      intro j u hu
      have hj : j < M.length := by
        rcases Nat.lt_or_ge j M.length with h | h
        · exact h
        · rw [List.getElem?_eq_none (by rw [nums_len]; exact h)] at hu; cases hu
      obtain ⟨b, off, ea, hc⟩ := hN.2.2 (by omega)
      injection ea with ea
      subst ea
      rw [nums_at k M j hj] at hu
      injection hu with hu
      subst hu
      have h6 := hc j hj
      by_cases h0 : j = 0
      · subst h0; simpa [Addr.add] using h6
      · simpa [Addr.add, h0] using h6
    obtain ⟨v', w', hrun, h2, h3, _, h5⟩ := run_append_own_at (P := P) w base t ty e i (.int k 0) 1 bytes ht hi hz hsz hbb rfl (by decide) v L.length (nums k L) hown ad M.length c (nums k M) (by rw [nums_len, Nat.mul_one]) hcells (by intro u hu; unfold nums at hu; obtain ⟨d, _, rfl⟩ := List.mem_map.1 hu; rfl) (by unfold maxLen; omega) hb hbase
    refine ⟨v', w', hrun, ?_, ?_⟩
    · unfold Own
      rw [List.length_append]
      have e2 : nums k (L ++ M) = nums k L ++ nums k M := by unfold nums; rw [List.map_append]
      rw [e2]; exact h2
    · exact ⟨h3.os, h3.tape, h3.output, h3.size, fun b hbk => h3.block b (by omega) (fun e => by have := (hown.lt b e.symm).1; omega)⟩
theorem step_push {ops : Array Oper} {o : Oper} {a : Act} {K : Act → World → Prop} {Q : Exit → Act → World → Prop} {E : Prop} {t e : TypeId} {k : IntKind} {bytes : Nat} (he : ElemInfo P t e k bytes) (hby : bytes ≤ 8) (hgd : o.guard = none) (s x : Operand)
    (ho : o.op = .call { callee := .builtin .append, args := #[s, x], argTypes := #[t, t] })
    (base : Nat) (L M : List Nat) (v : Value) (hs : a.eval s = v) (hown : Own base e k w v L) (ao : Option Addr) (c n : Nat) (hx : a.eval x = .slice ao n c) (hn : n = M.length) (hN : Ns k w ao c M) (hlen : L.length + M.length ≤ 8796093022207) (hbase : base ≤ w.heap.size)
    (h : ∀ v' w', Own base e k w' v' (L ++ M) → Below base w w' → K (a.put o.dst v') w') : if Region.wanted o (yielded ops a.tmps) = true then Oper.wp P o a w K Q else E := by
  have hw : Region.wanted o (yielded ops a.tmps) = true := by simp [Region.wanted, hgd]
  rw [if_pos hw]
  subst hn
  obtain ⟨v', w', hrun, h2, h3⟩ := run_push (P := P) (ty := o.type) he hby base v L M hown ao c hN hlen hbase
  unfold Oper.wp execOp
  simp only [ho, resolve, invoke, builtin, Sem.run_bind, Sem.run_pure, Result.andThen_ok, List.map_toArray, List.map_cons, List.map_nil, hs, hx, hrun]
  exact h v' w' h2 h3
theorem wpList_pushall {ops : Array Oper} {rest : List Oper} {o : Oper} {a : Act} {Q : Exit → Act → World → Prop} {t e : TypeId} {k : IntKind} {bytes : Nat} (he : ElemInfo P t e k bytes) (hby : bytes ≤ 8) (hgd : o.guard = none) (s x : Operand)
    (ho : o.op = .call { callee := .builtin .append, args := #[s, x], argTypes := #[t, t] })
    (base : Nat) (L M : List Nat) (v : Value) (hs : a.eval s = v) (hown : Own base e k w v L) (ao : Option Addr) (c n : Nat) (hx : a.eval x = .slice ao n c) (hn : n = M.length) (hN : Ns k w ao c M) (hlen : L.length + M.length ≤ 8796093022207) (hbase : base ≤ w.heap.size)
    (h : ∀ v' w', Own base e k w' v' (L ++ M) → Below base w w' → wpList P ops Q rest (a.put o.dst v') w') : wpList P ops Q (o :: rest) a w := by
  refine wpList_plain hgd fun K hK' => ?_
  subst hn
  obtain ⟨v', w', hrun, h2, h3⟩ := run_push (P := P) (ty := o.type) he hby base v L M hown ao c hN hlen hbase
  unfold Oper.wp execOp
  simp only [ho, resolve, invoke, builtin, Sem.run_bind, Sem.run_pure, Result.andThen_ok, List.map_toArray, List.map_cons, List.map_nil, hs, hx, hrun]
  exact hK' _ _ (h v' w' h2 h3)
end
/-- block g is a variable of type Z that holds x; its digits do not lie in block f -/
def RV (tz ti : TypeId) (f : Nat) (w : World) (g : Nat) (x : Int) : Prop :=
  ∃ ao cap, ZL tz w g (zneg x) (.slice ao (zl x).length cap) ∧ Nz ti w ao cap (zl x) ∧ ∀ p, ao = some p → p.block ≠ f
theorem RV.below {tz ti : TypeId} {f : Nat} {w w' : World} {g : Nat} {x : Int} (h : RV tz ti f w g x) (hb : Below w.heap.size w w') : RV tz ti f w' g x := by
  obtain ⟨ao, cap, h1, h2, h3⟩ := h
  exact ⟨ao, cap, h1.below hb, h2.below hb, h3⟩
theorem RV.drew {tz ti : TypeId} {f : Nat} {w : World} {g : Nat} {x : Int} (h : RV tz ti f w g x) : RV tz ti f w.drew g x := h.below (Below.drew (Below.refl _ _))
theorem RV.alloc {tz ti : TypeId} {f : Nat} {w : World} {g : Nat} {x : Int} (h : RV tz ti f w g x) (o : Obj) : RV tz ti f (w.alloc o) g x := h.below (below_alloc _ _)
theorem RV.lt {tz ti : TypeId} {f : Nat} {w : World} {g : Nat} {x : Int} (h : RV tz ti f w g x) : g < w.heap.size := by obtain ⟨_, _, h1, _⟩ := h; exact h1.lt
theorem RV.set2 {tz ti : TypeId} {f : Nat} {w : World} {g b : Nat} {x : Int} (h : RV tz ti f w g x) (hs : ElemIs w b tz) (hne : tz ≠ ti) (hgb : g ≠ b) (u v : Value) : RV tz ti f ((w.setCell ⟨b, 0, none⟩ u).setCell ⟨b, 1, none⟩ v) g x := by
  obtain ⟨ao, cap, h1, h2, h3⟩ := h
  exact ⟨ao, cap, (h1.far _ _ hgb).far _ _ hgb, (h2.setCell hs hne 0 u).setCell (hs.setCell _ _) hne 1 v, h3⟩
/-- a cell of block f stored into -/
theorem RV.setf {tz ti : TypeId} {f : Nat} {w : World} {g : Nat} {x : Int} (h : RV tz ti f w g x) (hgf : g ≠ f) (o : Nat) (u : Value) : RV tz ti f (w.setCell ⟨f, o, none⟩ u) g x := by
  obtain ⟨ao, cap, h1, h2, h3⟩ := h
  refine ⟨ao, cap, h1.far _ _ hgf, ⟨h2.1.setCell_far _ _ (fun hp b off he hb => ?_), fun hp b off he => (h2.2 hp b off he).setCell _ _⟩, h3⟩
  exact h3 _ he (by simpa using hb.symm)
/-- a value stored into a variable -/
theorem RV.store {tz ti : TypeId} {f : Nat} {w : World} {g : Nat} {n : Bool} {v : Value} {y : Int} {ao : Option Addr} {cap : Nat} (h : ZL tz w g n v) (hN : Nz ti w ao cap (zl y)) (hne : tz ≠ ti) (hf : ∀ p, ao = some p → p.block ≠ f) :
    RV tz ti f ((w.setCell ⟨g, 0, none⟩ (.bool (zneg y))).setCell ⟨g, 1, none⟩ (.slice ao (zl y).length cap)) g y :=
  ⟨ao, cap, (h.set0 _).set1 _, (hN.setCell h.2.2.2.2 hne 0 _).setCell (h.2.2.2.2.setCell _ _) hne 1 _, hf⟩
/-- a variable just made -/
theorem RV.made {tz ti : TypeId} {f : Nat} {w : World} {g : Nat} {y : Int} {ao : Option Addr} {cap : Nat} (hg : g = w.heap.size) (hN : Nz ti w ao cap (zl y)) (hf : ∀ p, ao = some p → p.block ≠ f) :
    RV tz ti f (w.alloc (.cells #[.bool (zneg y), .slice ao (zl y).length cap] tz)) g y :=
  ⟨ao, cap, ZL.made hg, hN.below (below_alloc _ _), hf⟩
/-- variables that stay as they are -/
def KV (tz : TypeId) (w : World) (l : List (Nat × Bool × Value)) : Prop := ∀ e ∈ l, ZL tz w e.1 e.2.1 e.2.2
theorem KV.below {tz : TypeId} {w w' : World} {l : List (Nat × Bool × Value)} (h : KV tz w l) (hb : Below w.heap.size w w') : KV tz w' l := fun e he => (h e he).below hb
theorem KV.drew {tz : TypeId} {w : World} {l : List (Nat × Bool × Value)} (h : KV tz w l) : KV tz w.drew l := h
theorem KV.far {tz : TypeId} {w : World} {l : List (Nat × Bool × Value)} (h : KV tz w l) (a : Addr) (u : Value) (hne : ∀ e ∈ l, e.1 ≠ a.block) : KV tz (w.setCell a u) l := fun e he => (h e he).far a u (hne e he)
theorem KV.far2 {tz : TypeId} {w : World} {l : List (Nat × Bool × Value)} (h : KV tz w l) {b : Nat} (hne : ∀ e ∈ l, e.1 ≠ b) (u v : Value) : KV tz ((w.setCell ⟨b, 0, none⟩ u).setCell ⟨b, 1, none⟩ v) l := (h.far _ _ hne).far _ _ hne
theorem Own.far {base : Nat} {e : TypeId} {k : IntKind} {w : World} {g n cap : Nat} {L : List Nat} (h : Own base e k w (.slice (some ⟨g, 0, none⟩) n cap) L) (a : Addr) (hne : a.block ≠ g) (u : Value) : Own base e k (w.setCell a u) (.slice (some ⟨g, 0, none⟩) n cap) L := by
  obtain ⟨h1, h2⟩ := h
  refine ⟨h1, ?_⟩
  rcases h2 with hn | ⟨g', cap', cur, hv, hg, hh, rest⟩
  · exact .inl hn
  · refine .inr ⟨g', cap', cur, hv, hg, ?_, rest⟩
    injection hv with h3 _ _
    injection h3 with h3
    have h4 : g = g' := by simpa using congrArg Addr.block h3
    subst h4
    rw [Below.heap_setCell _ _ _ _ (fun e => hne e.symm)]; exact hh
end Go.Ulp
