/- nat.Decimal. -/
import Derived.Test.YthaelmnblgollaaDoorTx1
import Derived.Test.YthaelmnblgollaaDoorQt1
import Derived.Test.YthaelmnblgollaaDoorShelfS
import Derived.Sort.OwnSorted
import Derived.Lib.AppendIntMem
import Derived.Lib.Join
set_option linter.unusedVariables false
set_option linter.unusedSimpArgs false
namespace Go.Ulp
open Go.RowKit Go.Sort Go.Proofs
/-- a slice of the call's own with these texts -/
def OwnS (base : Nat) (e : TypeId) (w : World) (v : Value) (S : List (List UInt8)) : Prop := w.ownsRow base e 1 v S.length (S.map encStr)
theorem OwnS.nil {base : Nat} {e : TypeId} {w : World} : OwnS base e w (.slice none 0 0) [] := World.ownsRow_nil _ _ _ _
theorem OwnS.kept {base : Nat} {e : TypeId} {w w' : World} {v : Value} {S : List (List UInt8)} (h : OwnS base e w v S) (hb : Below w.heap.size w w') : OwnS base e w' v S := by
  obtain ⟨h1, h2⟩ := h
  refine ⟨h1, ?_⟩
  rcases h2 with hn | ⟨g, cap, cur, rfl, hg, hh, rest⟩
  · exact .inl hn
  · refine .inr ⟨g, cap, cur, rfl, hg, ?_, rest⟩
    rw [hb.block g (Array.getElem?_eq_some_iff.1 hh).1]; exact hh
def ElemS (P : Program) (t e : TypeId) : Prop := P.underlying t = some (.slice e) ∧ ∃ i, P.info? e = some i ∧ i.zero = some (.string ⟨#[]⟩) ∧ i.size = 1 ∧ i.bytes = 16
theorem ElemS.mk {P : Program} {t e : TypeId} (h : P.underlying t = some (.slice e)) (hi : (P.info? e).map (fun i => (i.zero, i.size, i.bytes)) = some (some (.string ⟨#[]⟩), 1, 16)) : ElemS P t e := by
  obtain ⟨i0, h0, h1, h2, h3⟩ := info_parts hi
  exact ⟨h, i0, h0, h1, h2, h3⟩
theorem cell_pushS (w : World) (s : List UInt8) (e : TypeId) : (w.alloc (.cells #[.string (bsOf s)] e)).cell? ⟨w.heap.size, 0, none⟩ = some (encStr s) := by
  rw [World.cell?_alloc_at (hn := rfl)]; simp [bsOf]
section
variable {P : Program} {w : World}
theorem wpList_pushS {ops : Array Oper} {rest : List Oper} {o : Oper} {a : Act} {Q : Exit → Act → World → Prop} {t e : TypeId} (he : ElemS P t e) (hgd : o.guard = none) (s x : Operand)
    (ho : o.op = .call { callee := .builtin .append, args := #[s, x], argTypes := #[t, t] })
    (base : Nat) (S : List (List UInt8)) (d : List UInt8) (v : Value) (hs : a.eval s = v) (hown : OwnS base e w v S) (ad : Addr) (hx : a.eval x = .slice (some ad) 1 1)
    (hcell : w.cell? ad = some (encStr d)) (hlen : S.length ≤ 8796093022206) (hbase : base ≤ w.heap.size)
    (h : ∀ v' w', OwnS base e w' v' (S ++ [d]) → Below base w w' → (∀ b, b < w.heap.size → (∀ g n c, v = .slice (some ⟨g, 0, none⟩) n c → b ≠ g) → w'.heap[b]? = w.heap[b]?) → wpList P ops Q rest (a.put o.dst v') w') : wpList P ops Q (o :: rest) a w := by
  obtain ⟨ht, i, hi, hz, hsz, hb⟩ := he
  refine wpList_append_own w hgd s x t ho base e i (.string ⟨#[]⟩) 1 16 ht hi hz hsz hb rfl (by decide) v S.length _ hs hown ad 1 1 [encStr d] hx rfl ?_ ?_ ?_ ?_ hbase ?_
  · intro j u hj
    match j, hj with
    | 0, hj =>
      simp only [List.getElem?_cons_zero, Option.some.injEq] at hj
      subst hj
      have e1 : ad.add 0 = ad := by simp [Addr.add]
      rw [e1]; exact hcell
  · intro u hu
    rw [List.mem_singleton] at hu
    subst hu; rfl
  · unfold maxLen; omega
  · omega
  · intro v' w' h1 h2 _
    refine h v' w' ?_ ?_ ?_
    · unfold OwnS; rw [List.length_append, List.map_append]; exact h1
    · exact ⟨h2.os, h2.tape, h2.output, h2.size, fun b hbk => h2.block b (by omega) (fun e => by have := (hown.lt b e.symm).1; omega)⟩
    · intro b hb hne
      refine h2.block b hb (fun e => ?_)
      rcases hown.2 with ⟨rfl, _⟩ | ⟨g, cap, cur, rfl, _⟩
      · simp [Value.ownBlock] at e
      · exact hne g _ _ rfl (by simpa [Value.ownBlock] using e)
end
theorem bl_len2 (m n : Nat) (h : (limbs m).length ≤ n) : bl m ≤ 32 * n := by
  have h1 := (digs_len_le 4294967296 (by omega) m n).1 h
  rw [show (4294967296 : Nat) = 2 ^ 32 by decide, ← Nat.pow_mul] at h1
  exact (bl_le m _).2 h1
theorem join_flat (L : List (List UInt8)) : Lib.join L [] = L.flatten := by
  cases L with
  | nil => rfl
  | cons x r =>
    rw [Lib.join_cons]
    unfold Lib.joinTail
    simp
theorem flat_len (S : List (List UInt8)) (h : ∀ p ∈ S, 0 < p.length) : S.length ≤ S.flatten.length := by
  induction S with
  | nil => simp
  | cons x r ih =>
    have h1 := ih (fun p hp => h p (List.mem_cons_of_mem _ hp))
    have h2 := h x (List.mem_cons_self ..)
    rw [List.flatten_cons, List.length_append, List.length_cons]; omega
theorem decD_bits (n b : Nat) (h : n < 2 ^ b) (hb : 0 < b) : (decD n).length ≤ b := by
  obtain ⟨j, rfl⟩ : ∃ j, b = j + 1 := ⟨b - 1, by omega⟩
  exact decD_len j n (Nat.lt_of_lt_of_le h (Nat.pow_le_pow_left (by omega) _))
/-- what is behind the loop's state -/
def DecSt (n q : Nat) (S : List (List UInt8)) : Prop := decD n = (if q = 0 then [] else decD q) ++ S.reverse.flatten ∧ (∀ p ∈ S, 0 < p.length) ∧ q ≤ n
theorem DecSt.start (n : Nat) (h : 0 < n) : DecSt n n [] := ⟨by rw [if_neg (by omega)]; simp, (fun p hp => by cases hp), Nat.le_refl _⟩
theorem DecSt.step {n q : Nat} {S : List (List UInt8)} (h : DecSt n q S) (h1 : 0 < q / 1000000000) : DecSt n (q / 1000000000) (S ++ [padz 9 (decD (q % 1000000000))]) := by
  obtain ⟨e, hp, hq⟩ := h
  refine ⟨?_, fun p hp' => ?_, by omega⟩
  · rw [e, if_neg (by omega), if_neg (by omega), dec_nine q h1]; simp
  · rcases List.mem_append.1 hp' with h9 | h9
    · exact hp p h9
    · rw [List.mem_singleton] at h9
      rw [h9, padz_len]; omega
theorem DecSt.last {n q : Nat} {S : List (List UInt8)} (h : DecSt n q S) (h0 : 0 < q) (h1 : q / 1000000000 = 0) : DecSt n 0 (S ++ [decD (q % 1000000000)]) := by
  obtain ⟨e, hp, hq⟩ := h
  refine ⟨?_, fun p hp' => ?_, by omega⟩
  · rw [e, if_neg (by omega), if_pos rfl, show q % 1000000000 = q by omega]; simp
  · rcases List.mem_append.1 hp' with h9 | h9
    · exact hp p h9
    · rw [List.mem_singleton] at h9
      rw [h9]; exact decD_pos _
theorem DecSt.len {n q : Nat} {S : List (List UInt8)} (h : DecSt n q S) : S.length ≤ (decD n).length := by
  obtain ⟨e, hp, _⟩ := h
  have h1 := flat_len S.reverse (fun p hp' => hp p (List.mem_reverse.1 hp'))
  rw [e, List.length_append]
  rw [List.length_reverse] at h1; omega
theorem DecSt.fin {n : Nat} {S : List (List UInt8)} (h : DecSt n 0 S) : S.reverse.flatten = decD n ∧ 0 < S.length := by
  obtain ⟨e, hp, _⟩ := h
  rw [if_pos rfl] at e
  have e2 : S.reverse.flatten = decD n := by rw [e]; simp
  refine ⟨e2, ?_⟩
  rcases Nat.eq_zero_or_pos S.length with h9 | h9
  · have h8 := List.length_eq_zero_iff.1 h9
    rw [h8] at e2
    exact absurd e2.symm (decD_ne n)
  · exact h9
theorem below_grown (w : World) (k : Nat) (os : Array Obj) : Below w.heap.size w (grow (w.drewN k) os) :=
  ⟨rfl, rfl, rfl, by rw [size_grow]; exact Nat.le_add_right _ _, fun b hb => by rw [heap_grow_old _ _ (by exact hb)]; rfl⟩
def RetN2F (w : World) (n : Nat) (r : Value) (e : Ending) (w' : World) : Prop :=
  ∃ ao, e = .returned (.tuple #[.slice ao (limbs n).length (limbs n).length, r]) ∧ Ns .u32 w' ao (limbs n).length (limbs n) ∧ Below w.heap.size w w' ∧ (∀ p, ao = some p → w.heap.size ≤ p.block)
theorem Ns.far {k : IntKind} {w w' : World} {ao : Option Addr} {cap : Nat} {L : List Nat} (h : Ns k w ao cap L) (hh : ∀ b off, ao = some ⟨b, off, none⟩ → b < w.heap.size → w'.heap[b]? = w.heap[b]?) : Ns k w' ao cap L := by
  refine ⟨h.1, h.2.1, fun hp => ?_⟩
  obtain ⟨b, off, e, hc⟩ := h.2.2 hp
  refine ⟨b, off, e, fun i hi => ?_⟩
  have hb := World.block_lt_of_cell? _ _ (hc i hi)
  rw [← hc i hi]
  unfold World.cell?
  rw [hh b off e hb]
theorem itoa_nat (r : Nat) : Lib.itoa (r : Int) = decD r := by
  unfold Lib.itoa
  rw [if_neg (by omega), Int.toNat_natCast]
end Go.Ulp
namespace Go.Proofs.YthaelmnblgollaaDoor
open Go.RowKit Go.Ulp Go.Sort
set_option linter.unusedVariables false
set_option linter.unusedSimpArgs false
set_option maxHeartbeats 1000000
set_option maxRecDepth 100000
/-- the library's powers of ten lie in their variable -/
def Tab10 (w : World) : Prop := Lib.TabIs Tryd.prog w "internal/strconv.uint64pow10" .u64 Lib.pow10Tab
theorem Tab10.below {w w' : World} (h : Tab10 w) (hb : Below w.heap.size w w') : Tab10 w' := Lib.tabBelow_of_tabIs h w' hb
theorem itoa_any (n : Int) (h0 : -9223372036854775808 ≤ n) (h1 : n ≤ 9223372036854775807) (w : World) (hT : Tab10 w) :
    Calls Tryd.prog 46 #[.int .i64 n] w fun e w' => e = .returned (.string (bsOf (Lib.itoa n))) ∧ Below w.heap.size w w' :=
  (Tryd.strconv_Itoa n h0 h1 w hT).mono fun e w' ⟨he, k, os, hw⟩ => ⟨he, by rw [hw]; exact below_grown w k os⟩
theorem repeat_any (c : UInt8) (k : Nat) (hk : k ≤ 1000000000) (w : World) :
    Calls Tryd.prog 44 #[.string (bsOf [c]), .int .i64 (k : Int)] w fun e w' => e = .returned (.string (bsOf (List.replicate k c))) ∧ Below w.heap.size w w' :=
  (Tryd.strings_Repeat (bsOf [c]) k w (by omega) (by rw [bs_size]; simp; omega)).mono fun e w' ⟨he, hb⟩ => ⟨by
    rw [he, bs_list]
    have h9 := Lib.repeatL_replicate c 1 k
    rw [Nat.mul_one] at h9
    rw [show [c] = List.replicate 1 c from rfl, h9]; rfl, hb⟩
end Go.Proofs.YthaelmnblgollaaDoor
