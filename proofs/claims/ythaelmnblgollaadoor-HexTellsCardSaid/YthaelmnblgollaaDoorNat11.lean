/- nat: lists as they are handed in: Check, check, LimbsRight. -/
import Derived.Test.YthaelmnblgollaaDoorNat8
import Derived.WalkSpells
import Derived.Test.YthaelmnblgollaaDoorStep
import Derived.Test.YthaelmnblgollaaDoorShelf
import Derived.ArgAppend
import Derived.Lib.BitFns


namespace Go.Ulp
open Go.RowKit
theorem run_eql_slice_nil {P : Program} (w : World) (t e : TypeId) (a : Option Addr) (n c n' c' : Nat) (h : P.underlying t = some (.slice e)) :
    (binOp .eql t (.slice a n c) (.slice none n' c')).run P w = .ok (.bool a.isNone) w := Lib.run_eql_slice_nil w t e a n c n' c' h
theorem own_empty (w : World) (k : IntKind) (e : TypeId) : Own w.heap.size e k (w.alloc (.cells #[] e)) (.slice (some ⟨w.heap.size, 0, none⟩) 0 0) [] := by
  unfold Own
  exact ⟨by simp [nums], .inr ⟨w.heap.size, 0, #[], rfl, Nat.le_refl _, heap_alloc_new w _, Nat.le_refl _, by unfold maxLen; omega, by simp, by simp [nums]⟩⟩
/-- what a call leaves that hands back two natural numbers -/
def RetNN (w : World) (q r : Nat) (e : Ending) (w' : World) : Prop :=
  ∃ ao cap bo cbp, e = .returned (.tuple #[.slice ao (limbs q).length cap, .slice bo (limbs r).length cbp]) ∧ Ns .u32 w' ao cap (limbs q) ∧ Ns .u32 w' bo cbp (limbs r) ∧ Below w.heap.size w w'
def RetNc (w : World) (n : Nat) (e : Ending) (w' : World) : Prop :=
  ∃ ao cap, e = .returned (.slice ao (limbs n).length cap) ∧ Ns .u32 w' ao cap (limbs n) ∧ Below w.heap.size w w'
end Go.Ulp
namespace Go.Proofs.YthaelmnblgollaaDoor
open Go.RowKit Go.Ulp
set_option linter.unusedVariables false
set_option linter.unusedSimpArgs false
set_option maxHeartbeats 1600000
set_option maxRecDepth 100000
end Go.Proofs.YthaelmnblgollaaDoor
set_option linter.unusedVariables false
set_option linter.unusedSimpArgs false
namespace Go.Ulp
open Go.RowKit
theorem bitLenAux_bl2 (f : Nat) : ∀ n, n < 2 ^ f → Lib.bitLenAux f n = bl n := by
  induction f with
  | zero => intro n h; have : n = 0 := by simpa using h
            subst this; rfl
  | succ f ih =>
    intro n h
    unfold Lib.bitLenAux
    by_cases h0 : n = 0
    · subst h0; rfl
    · rw [if_neg h0, bl_half n (by omega), ih (n / 2) (by rw [Nat.pow_succ] at h; omega)]
theorem bitLen_bl2 (n : Nat) (h : n < 18446744073709551616) : Lib.bitLen n = bl n := bitLenAux_bl2 64 n (by simpa using h)
theorem over_lead {n lo P top k : Nat} (hn : n = lo + P * top) (hlo : lo < P) (htop : 0 < top) (hB : top < 4294967296) (hk : k = 32 - bl top) : k ≤ 31 ∧ P * 2147483648 ≤ n * 2 ^ k ∧ n * 2 ^ k < P * 4294967296 := by
  have b1 := (bl_pos top).2 htop
  have b2 : bl top ≤ 32 := (bl_le top 32).2 (by simpa using hB)
  have l1 := lt_bl top
  have l2 := pow_bl top htop
  have e1 : 2 ^ bl top * 2 ^ k = 4294967296 := by rw [← Nat.pow_add, hk, show bl top + (32 - bl top) = 32 by omega]
  have e2 : 2 ^ (bl top - 1) * 2 ^ k = 2147483648 := by rw [← Nat.pow_add, hk, show bl top - 1 + (32 - bl top) = 31 by omega]
  refine ⟨by omega, ?_, ?_⟩
  · rw [← e2, ← Nat.mul_assoc]
    exact Nat.mul_le_mul_right _ (Nat.le_trans (Nat.mul_le_mul_left P l2) (by omega))
  · rw [← e1, ← Nat.mul_assoc]
    refine Nat.mul_lt_mul_of_pos_right ?_ (Nat.two_pow_pos k)
    have : P * (top + 1) ≤ P * 2 ^ bl top := Nat.mul_le_mul_left P l1
    rw [Nat.mul_add, Nat.mul_one] at this
    omega
/-- one round -/
theorem over_step {a u v P Qd M lF : Nat} (hv : 0 < v) (ha : a < P) (hF : lF = a + P * u) (hlt : lF < v * (P * 4294967296)) (hM : M = Qd * (P * 4294967296 * v) + lF) :
    u < v * 4294967296 ∧ a + P * (u % v) < v * P ∧ M = (u / v + 4294967296 * Qd) * (P * v) + (a + P * (u % v)) := by
  have hP : 0 < P := by omega
  have hd := Nat.div_add_mod u v
  have hm := Nat.mod_lt u hv
  refine ⟨?_, ?_, ?_⟩
  · have h1 : P * u < P * (v * 4294967296) := by rw [show P * (v * 4294967296) = v * (P * 4294967296) by rw [Nat.mul_left_comm]]; omega
    exact Nat.lt_of_mul_lt_mul_left h1
  · have h1 : P * (u % v + 1) ≤ P * v := Nat.mul_le_mul_left P hm
    rw [Nat.mul_add, Nat.mul_one] at h1
    rw [Nat.mul_comm v P]; omega
  · rw [hM, hF]
    have e1 : P * u = P * v * (u / v) + P * (u % v) := by
      have := congrArg (fun z => P * z) hd
      simp only [Nat.mul_add] at this
      rw [← this, Nat.mul_assoc]
    have e2 : (u / v + 4294967296 * Qd) * (P * v) = P * v * (u / v) + Qd * (P * 4294967296 * v) := by
      rw [Nat.add_mul, Nat.mul_comm (u / v)]
      congr 1
      rw [Nat.mul_comm 4294967296 Qd, Nat.mul_assoc, show P * 4294967296 * v = 4294967296 * (P * v) by rw [Nat.mul_comm P, Nat.mul_assoc]]
    omega
/-- the end -/
theorem over_end {m n k Q r : Nat} (hn : 0 < n) (h : m * 2 ^ k = Q * (n * 2 ^ k) + r) (hr : r < n * 2 ^ k) : Q = m / n ∧ r / 2 ^ k = m % n := by
  have hk := Nat.two_pow_pos k
  have h1 : Q = m * 2 ^ k / (n * 2 ^ k) := by
    rw [h, Nat.mul_comm Q, Nat.mul_add_div (by omega), Nat.div_eq_of_lt hr, Nat.add_zero]
  have h2 : r = m * 2 ^ k % (n * 2 ^ k) := by
    rw [h, Nat.mul_comm Q, Nat.mul_add_mod, Nat.mod_eq_of_lt hr]
  refine ⟨?_, ?_⟩
  · rw [h1, Nat.mul_div_mul_right _ _ hk]
  · rw [h2, Nat.mul_mod_mul_right, Nat.mul_div_cancel _ hk]
theorem Own.block {base : Nat} {e : TypeId} {k : IntKind} {w : World} {v : Value} {L : List Nat} (h : Own base e k w v L) (hl : 0 < L.length) : ∃ g cap, v = .slice (some ⟨g, 0, none⟩) L.length cap ∧ L.length ≤ cap ∧ cap ≤ 9223372036854775807 ∧ base ≤ g ∧ g < w.heap.size := by
  obtain ⟨h1, h2⟩ := h
  rcases h2 with ⟨_, hn⟩ | ⟨g, cap, cur, rfl, hg, hh, h3, h4, _⟩
  · exact absurd hn (by omega)
  · exact ⟨g, cap, rfl, h3, h4, hg, (Array.getElem?_eq_some_iff.1 hh).1⟩
theorem Own.onl {base g : Nat} {e : TypeId} {k : IntKind} {w w' : World} {gq n cap : Nat} {L : List Nat} (h : Own base e k w (.slice (some ⟨gq, 0, none⟩) n cap) L) (hne : gq ≠ g) (hb : ∀ b, b ≠ g → w'.heap[b]? = w.heap[b]?) : Own base e k w' (.slice (some ⟨gq, 0, none⟩) n cap) L := by
  obtain ⟨h1, h2⟩ := h
  refine ⟨h1, ?_⟩
  rcases h2 with hn | ⟨g', cap', cur, hv, hg, hh, rest⟩
  · exact .inl hn
  · have : gq = g' := by injection hv with e1; injection e1 with e1; injection e1
    subst this
    refine .inr ⟨gq, cap', cur, hv, hg, ?_, rest⟩
    rw [hb gq hne]; exact hh
theorem Own.mono2 {base base' : Nat} {e : TypeId} {k : IntKind} {w : World} {v : Value} {L : List Nat} (h : Own base e k w v L) (hb : base' ≤ base) : Own base' e k w v L := by
  obtain ⟨h1, h2⟩ := h
  refine ⟨h1, ?_⟩
  rcases h2 with hn | ⟨g, cap, cur, rfl, hg, rest⟩
  · exact .inl hn
  · exact .inr ⟨g, cap, cur, rfl, Nat.le_trans hb hg, rest⟩
section
variable {P : Program} {w : World}
theorem wpList_grow1 {ops : Array Oper} {rest : List Oper} {o : Oper} {a : Act} {Q : Exit → Act → World → Prop} {t e : TypeId} {k : IntKind} {bytes : Nat} (he : ElemInfo P t e k bytes) (hby : bytes ≤ 8) (hgd : o.guard = none) (s x : Operand)
    (ho : o.op = .call { callee := .builtin .append, args := #[s, x], argTypes := #[t, t] })
    (L : List Nat) (d : Nat) (b off : Nat) (hs : a.eval s = .slice (some ⟨b, off, none⟩) L.length L.length) (hN : Ns k w (some ⟨b, off, none⟩) L.length L) (hp : 0 < L.length) (ad : Addr) (hx : a.eval x = .slice (some ad) 1 1)
    (hcell : w.cell? ad = some (.int k (d : Int))) (hlen : L.length ≤ 8796093022207)
    (h : ∀ v' w', Own w.heap.size e k w' v' (L ++ [d]) → Below w.heap.size w w' → wpList P ops Q rest (a.put o.dst v') w') : wpList P ops Q (o :: rest) a w := by
  obtain ⟨ht, i, hi, hz, hsz, hb⟩ := he
  have hm := Nat.mul_le_mul hby hlen
  refine wpList_append_grows w hgd s x t ho e i (.int k 0) 1 bytes ht hi hz hsz hb rfl (by decide) _ L.length L.length (nums k L) hs (fun e => by cases e) (by rw [nums_len]; simp) ?_ ad 1 1 [.int k (d : Int)] hx rfl ?_ ?_ (by omega) (by unfold maxLen; omega) ?_ ?_
  · intro b' hb' j u hj
    injection hb' with hb'
    subst hb'
    have hj2 : j < L.length := by
      have := (List.getElem?_eq_some_iff.1 hj).1
      rwa [nums_len] at this
    rw [nums_at k L j hj2] at hj
    injection hj with hj
    subst hj
    obtain ⟨b2, o2, e2, hc⟩ := hN.2.2 hp
    injection e2 with e2
    injection e2 with e3 e4
    subst e3 e4
    have hcj := hc j hj2
    simp only [Addr.add]
    split
    · rename_i h0; subst h0; simpa using hcj
    · exact hcj
  · intro j u hj
    match j, hj with
    | 0, hj => simp at hj; subst hj; simpa [Addr.add] using hcell
  · intro u hu; simp at hu; subst hu; rfl
  · have : (L.length + 1) * bytes ≤ (L.length + 1) * 8 := Nat.mul_le_mul_left _ hby
    omega
  · intro v' w' h1 h2
    refine h v' w' ?_ ?_
    · unfold Own nums; rw [List.length_append, List.map_append]; exact h1
    · exact ⟨h2.os, h2.tape, h2.output, h2.size, fun b hbk => h2.block b hbk (fun e => by cases e)⟩
end
end Go.Ulp
namespace Go.Proofs.YthaelmnblgollaaDoor
open Go.RowKit Go.Ulp
set_option linter.unusedVariables false
set_option linter.unusedSimpArgs false
set_option maxHeartbeats 2000000
set_option maxRecDepth 100000
theorem over_slice (g la cap j s0 : Nat) (h1 : la + 1 ≤ cap) (h2 : j + s0 + 3 ≤ la + 1) : ∀ w, (Instr.sliceAt 38 (.slice (some ⟨g, 0, none⟩) (la + 1) cap) (some (.int .i64 (j : Int))) (some (.int .i64 ((j : Int) + ((s0 : Int) + 2) + 1))) none).run Tryd.prog w = .ok (.slice (some ⟨g, j, none⟩) (s0 + 3) (cap - j)) w := by
  intro w
  have x1 : ¬ cap = j := by omega
  obtain ⟨e, he⟩ : ∃ e, e = j + (s0 + 3) := ⟨_, rfl⟩
  have x2 : ((j : Int) + ((s0 : Int) + 2) + 1) = (e : Int) := by omega
  have x3 : e ≤ cap := by omega
  have x4 : j ≤ e := by omega
  have x5 : e - j = s0 + 3 := by omega
  rw [x2]
  clear x2 he h1 h2
  go_simp
end Go.Proofs.YthaelmnblgollaaDoor
set_option linter.unusedVariables false
set_option linter.unusedSimpArgs false
namespace Go.Ulp
open Go.RowKit
/-- what is wrong with a list -/
def limbE (L : List Nat) : Int := if 400 < L.length then 2 else if L.length = 0 ∨ L.getD (L.length - 1) 0 ≠ 0 then 0 else 3
def limbE2 (L M : List Nat) : Int := if limbE L = 0 then limbE M else limbE L
theorem limbE_zero {L : List Nat} (h : limbE L = 0) : L.length ≤ 400 ∧ Trim L := by
  unfold limbE at h
  split at h
  · cases h
  · split at h
    · rename_i h1; exact ⟨by omega, (trim_iff L).2 h1⟩
    · cases h
theorem limbE2_zero {L M : List Nat} (h : limbE2 L M = 0) : limbE L = 0 ∧ limbE M = 0 := by
  unfold limbE2 at h
  split at h
  · rename_i h1; exact ⟨h1, h⟩
  · rename_i h1; exact absurd h h1
theorem limbs_self {L : List Nat} (hl : Lim L) (ht : Trim L) : limbs (lval L) = L := digs_val _ (by omega) L hl ht
end Go.Ulp
namespace Go.Proofs.YthaelmnblgollaaDoor
open Go.RowKit Go.Ulp
set_option linter.unusedVariables false
set_option linter.unusedSimpArgs false
set_option maxHeartbeats 1000000
set_option maxRecDepth 100000
theorem limbs_cases (ao : Option Addr) (cap : Nat) (L : List Nat) (w : World) (hN : Ns .u32 w ao cap L) :
    (limbE L = 2 ∧ (400 : Int) < (L.length : Int)) ∨ (limbE L = 0 ∧ L.length = 0) ∨ (limbE L = 3 ∧ ∃ n b off, L.length = n ∧ ao = some ⟨b, off, none⟩ ∧ 0 < n ∧ n ≤ 400 ∧ w.cell? ⟨b, off + (n - 1), none⟩ = some (.int .u32 0)) ∨ (limbE L = 0 ∧ ∃ n b off d, L.length = n ∧ ao = some ⟨b, off, none⟩ ∧ 0 < n ∧ n ≤ 400 ∧ ((d == 0) = false) ∧ w.cell? ⟨b, off + (n - 1), none⟩ = some (.int .u32 d)) := by
  by_cases h4 : 400 < L.length
  · exact .inl ⟨by unfold limbE; rw [if_pos h4], by omega⟩
  · by_cases h0 : L.length = 0
    · exact .inr (.inl ⟨by unfold limbE; rw [if_neg h4, if_pos (.inl h0)], h0⟩)
    · obtain ⟨b, off, rfl, hc⟩ := hN.2.2 (by omega)
      have hc := hc (L.length - 1) (by omega)
      unfold lb at hc
      by_cases hd0 : L.getD (L.length - 1) 0 = 0
      · refine .inr (.inr (.inl ⟨by unfold limbE; rw [if_neg h4, if_neg (fun h => by rcases h with h | h; exact h0 h; exact h hd0)], _, b, off, rfl, rfl, by omega, by omega, ?_⟩))
        rw [hd0] at hc; exact hc
      · refine .inr (.inr (.inr ⟨by unfold limbE; rw [if_neg h4, if_pos (.inr hd0)], _, b, off, _, rfl, rfl, by omega, by omega, ?_, hc⟩))
        exact beq_eq_false_iff_ne.2 (fun h => hd0 (by omega))
end Go.Proofs.YthaelmnblgollaaDoor
