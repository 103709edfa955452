/- Lists of uint64: Clone, Equal, appending. -/
import Derived.Test.YthaelmnblgollaaGreatDoorOs1
import Derived.Test.YthaelmnblgollaaGreatDoorShelf
import Derived.BigQuiet
import Derived.Deep.QuietTactic
set_option linter.unusedVariables false
set_option linter.unusedSimpArgs false
namespace Go.Ulp
open Go.RowKit Go.Proofs
theorem run_eql_slice_nil64 {P : Program} (w : World) (t e : TypeId) (a : Option Addr) (n c n' c' : Nat) (h : P.underlying t = some (.slice e)) :
    (binOp .eql t (.slice a n c) (.slice none n' c')).run P w = .ok (.bool a.isNone) w := Lib.run_eql_slice_nil w t e a n c n' c' h
theorem own_empty64 (w : World) (k : IntKind) (e : TypeId) : Own w.heap.size e k (w.alloc (.cells #[] e)) (.slice (some ⟨w.heap.size, 0, none⟩) 0 0) [] := by
  unfold Own
  exact ⟨by simp [nums], .inr ⟨w.heap.size, 0, #[], rfl, Nat.le_refl _, heap_alloc_new w _, Nat.le_refl _, by unfold maxLen; omega, by simp, by simp [nums]⟩⟩
section
variable {P : Program} {w : World}
theorem wpList_pushall64 {ops : Array Oper} {rest : List Oper} {o : Oper} {a : Act} {Q : Exit → Act → World → Prop} {t e : TypeId} {k : IntKind} {bytes : Nat} (he : ElemInfo P t e k bytes) (hby : bytes ≤ 8) (hgd : o.guard = none) (s x : Operand)
    (ho : o.op = .call { callee := .builtin .append, args := #[s, x], argTypes := #[t, t] })
    (base : Nat) (M : List Nat) (v : Value) (hs : a.eval s = v) (hown : Own base e k w v []) (ad : Addr) (c n : Nat) (hx : a.eval x = .slice (some ad) n c) (hn : n = M.length) (hN : Ns k w (some ad) c M) (hlen : M.length ≤ 17592186044416) (hbase : base ≤ w.heap.size)
    (h : ∀ v' w', Own base e k w' v' M → Below base w w' → wpList P ops Q rest (a.put o.dst v') w') : wpList P ops Q (o :: rest) a w := by
  subst hn
  obtain ⟨ht, i, hi, hz, hsz, hbb⟩ := he
  have hb : (([] : List Nat).length + M.length) * bytes ≤ 140737488355328 := by
    have : (([] : List Nat).length + M.length) * bytes ≤ (([] : List Nat).length + M.length) * 8 := Nat.mul_le_mul_left _ hby
    simp at *; omega
  have hcells : ∀ j u, (nums k M)[j]? = some u → w.cell? (ad.add j) = some u := by
    intro j u hu
    have hj : j < M.length := by
      rcases Nat.lt_or_ge j M.length with h | h
      · exact h
      · rw [List.getElem?_eq_none (by rw [nums_len]; exact h)] at hu; cases hu
    obtain ⟨b, off, ea, hc⟩ := hN.2.2 (by omega)
    injection ea with ea
    subst ea
    rw [nums_at k M j hj] at hu
    injection hu with hu
    subst hu
    have h6 := hc j hj
    have e1 : (⟨b, off, none⟩ : Addr).add j = ⟨b, off + j, none⟩ := by
      by_cases h0 : j = 0
      · subst h0; simp [Addr.add]
      · simp [Addr.add, h0]
    rw [e1]; exact h6
  refine wpList_plain hgd fun K hK' => ?_
  obtain ⟨v', w', hrun, h2, h3, _, h5⟩ := run_append_own_at (P := P) w base t o.type e i (.int k 0) 1 bytes ht hi hz hsz hbb rfl (by decide) v ([] : List Nat).length (nums k []) hown ad M.length c (nums k M) (by rw [nums_len, Nat.mul_one]) hcells (by intro u hu; unfold nums at hu; obtain ⟨d, _, rfl⟩ := List.mem_map.1 hu; rfl) (by unfold maxLen; simp; omega) hb hbase
  unfold Oper.wp execOp
  simp only [ho, resolve, invoke, builtin, Sem.run_bind, Sem.run_pure, Result.andThen_ok, List.map_toArray, List.map_cons, List.map_nil, hs, hx, hrun]
  refine hK' _ _ (h v' w' ?_ ?_)
  · unfold Own
    simp only [List.length_nil, Nat.zero_add] at h2
    exact h2
  · exact ⟨h3.os, h3.tape, h3.output, h3.size, fun b hbk => h3.block b (by omega) (fun e => by have := (hown.lt b e.symm).1; omega)⟩
end
theorem lb_ext64 {L M : List Nat} (hl : L.length = M.length) (h : ∀ j, j < L.length → lb L j = lb M j) : L = M := by
  refine List.ext_getElem hl (fun j h1 h2 => ?_)
  have := h j h1
  unfold lb at this
  rw [List.getD_eq_getElem?_getD, List.getElem?_eq_getElem h1, List.getD_eq_getElem?_getD, List.getElem?_eq_getElem h2] at this
  exact Int.ofNat_inj.1 (by simpa using this)
end Go.Ulp
namespace Go.Proofs.YthaelmnblgollaaGreatDoor
open Go.RowKit Go.Ulp
set_option linter.unusedVariables false
set_option linter.unusedSimpArgs false
set_option maxHeartbeats 1600000
set_option maxRecDepth 100000
theorem clone64_any (ao : Option Addr) (c : Nat) (L : List Nat) (w : World) (h : Ns .u64 w ao c L) (hl : L.length ≤ 17592186044415) :
    Calls Tryz.prog 67 #[.slice ao L.length c] w fun e w' => ∃ v, e = .returned v ∧ Own w.heap.size 23 .u64 w' v L ∧ Below w.heap.size w w' := by
  cases ao with
  | none =>
    have hn : L = [] := by
      rcases Nat.eq_zero_or_pos L.length with h0 | h0
      · exact List.length_eq_zero_iff.1 h0
      · obtain ⟨_, _, e, _⟩ := h.2.2 h0; cases e
    have HN := hid hn
    clear hn
    have hq := fun w => run_eql_slice_nil64 (P := Tryz.prog) w 22 23 none L.length c 0 0 ei_u64.1
    go_enter Tryz.func67, Tryz.ntmps67
    go_wp2_with fail
    go_ret
    exact ⟨_, rfl, by rw [HN.out]; exact Own.nil, Below.refl _ _⟩
  | some a =>
    have hq := fun w => run_eql_slice_nil64 (P := Tryz.prog) w 22 23 (some a) L.length c 0 0 ei_u64.1
    go_enter Tryz.func67, Tryz.ntmps67
    go_wp2_with (at_builtin; go_loud (refine wpList_pushall64 ei_u64 (by omega) rfl _ _ rfl w.heap.size L _ rfl (own_empty64 w .u64 23) _ _ _ rfl rfl (h.below (below_alloc _ _)) (by omega) (by simp) ?_; intro v1 w1 hown1 hb1))
    go_ret
    exact ⟨v1, rfl, hown1, (below_alloc _ _).trans hb1⟩
theorem equal64_any (a0 a1 : Option Addr) (c0 c1 : Nat) (L M : List Nat) (w : World) (h0 : Ns .u64 w a0 c0 L) (h1 : Ns .u64 w a1 c1 M) :
    Calls Tryz.prog 21 #[.slice a0 L.length c0, .slice a1 M.length c1] w fun e w' => e = .returned (.bool (decide (L = M))) ∧ Below w.heap.size w w' := by
  obtain ⟨h01, h02, h03⟩ := h0
  obtain ⟨h11, h12, h13⟩ := h1
  unfold maxLen at h02 h12
  by_cases hl : L.length = M.length
  · have hlb : ((L.length : Int) != (M.length : Int)) = false := by rw [bne_eq_false_iff_eq]; omega
    have hl1 : L.length ≤ M.length := by omega
    have hl2 : M.length ≤ L.length := by omega
    have HL := hid hl
    have HR := hid (fun (b : Bool) (h : b = decide (L = M)) => h)
    have HX := hid (fun h => lb_ext64 hl h)
    have HN := hid (fun (j : Nat) (h : lb L j ≠ lb M j) => (fun e => h (by rw [e]) : ¬ L = M))
    clear hl
    go_enter Tryz.func21, Tryz.ntmps21
    go_wp2_with fail
    go_loopw [13] (fun i wr => ∃ i0 : Nat, i = .int .i64 (i0 : Int) ∧ i0 ≤ L.length ∧ (∀ j, j < i0 → lb L j = lb M j) ∧ Below w.heap.size w wr) (fun i _ => (L.length - (intOf i).toNat))
    case atStart => exact ⟨0, rfl, by omega, fun j hj => by omega, Below.refl _ _⟩
    case round =>
      obtain ⟨j, rfl, hi1, hdr, hb⟩ := hrel
      by_cases hi : (j : Int) < (L.length : Int)
      · obtain ⟨b0, o0, rfl, hc0⟩ := h03 (by omega)
        obtain ⟨b1, o1, rfl, hc1⟩ := h13 (by omega)
        have k0 := (hb.cell (p := ⟨b0, o0 + j, none⟩) (World.block_lt_of_cell? _ _ (hc0 j (by omega)))).trans (hc0 j (by omega))
        have k1 := (hb.cell (p := ⟨b1, o1 + j, none⟩) (World.block_lt_of_cell? _ _ (hc1 j (by omega)))).trans (hc1 j (by omega))
        clear hc0 hc1 h03 h13
        have HD := hid hdr
        clear hdr
        have hj1 : (j : Int) < (M.length : Int) := by omega
        by_cases he : lb L j = lb M j
        · have heb : (lb L j != lb M j) = false := by simpa using he
          have HE := hid he
          clear he
          go_wp2_with fail
          go_quiet (fail)
          go_wp2_with fail
          go_roundw
          case rel => exact ⟨j + 1, by go_num, by omega, fun i hi => by
            by_cases e : i = j
            · rw [e]; exact HE.out
            · exact HD.out i (by omega), by (repeat' (first | (with_reducible assumption) | (with_reducible exact Below.refl _ _) | (with_reducible refine below_al ?_ _) | (with_reducible refine below_drewN ?_ _) | (with_reducible refine Below.drew ?_) | (with_reducible refine Below.alloc ?_ ?_ _) | (with_reducible refine Below.setCell ?_ ?_ _) | (refine below_trans ?_ (by assumption)) | go_size))⟩
          case measure => simp [intOf]; omega
        · have heb : (lb L j != lb M j) = true := by simpa using he
          have HF := hid (HN.out j he)
          clear he
          go_wp2_with fail
          go_quiet (fail)
          go_wp2_with fail
          go_ret
          exact ⟨ret_bool (by rw [decide_eq_false HF.out]), by (repeat' (first | (with_reducible assumption) | (with_reducible exact Below.refl _ _) | (with_reducible refine below_al ?_ _) | (with_reducible refine below_drewN ?_ _) | (with_reducible refine Below.drew ?_) | (with_reducible refine Below.alloc ?_ ?_ _) | (with_reducible refine Below.setCell ?_ ?_ _) | (refine below_trans ?_ (by assumption)) | go_size))⟩
      · have HD := hid (fun k (hk : k < L.length) => hdr k (by omega))
        clear hdr
        go_wp2_with fail
        go_ret
        exact ⟨ret_bool (by rw [decide_eq_true (HX.out HD.out)]), by (repeat' (first | (with_reducible assumption) | (with_reducible exact Below.refl _ _) | (with_reducible refine below_al ?_ _) | (with_reducible refine below_drewN ?_ _) | (with_reducible refine Below.drew ?_) | (with_reducible refine Below.alloc ?_ ?_ _) | (with_reducible refine Below.setCell ?_ ?_ _) | (refine below_trans ?_ (by assumption)) | go_size))⟩
  · have hlb : ((L.length : Int) != (M.length : Int)) = true := by rw [bne_iff_ne]; omega
    have HF := hid (show ¬ L = M from fun e => hl (by rw [e]))
    clear hl
    go_enter Tryz.func21, Tryz.ntmps21
    go_wp2_with fail
    go_ret
    exact ⟨ret_bool (by rw [decide_eq_false HF.out]), Below.refl _ _⟩
end Go.Proofs.YthaelmnblgollaaGreatDoor
