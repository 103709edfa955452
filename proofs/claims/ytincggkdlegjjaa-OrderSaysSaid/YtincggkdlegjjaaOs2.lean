/- Order: Clone, Sort, Equal. -/
import Derived.Test.YtincggkdlegjjaaOs1
import Derived.Test.YtincggkdlegjjaaShelf
import Derived.BigQuiet
import Derived.Deep.QuietTactic
import Derived.Shelf.SlSortCmp.NoneTotal
set_option linter.unusedVariables false
set_option linter.unusedSimpArgs false
namespace Go.Ulp
open Go.RowKit Go.Sort Go.Proofs
theorem run_eql_slice_nil64 {P : Program} (w : World) (t e : TypeId) (a : Option Addr) (n c n' c' : Nat) (h : P.underlying t = some (.slice e)) :
    (binOp .eql t (.slice a n c) (.slice none n' c')).run P w = .ok (.bool a.isNone) w := Lib.run_eql_slice_nil w t e a n c n' c' h
theorem own_empty64 (w : World) (k : IntKind) (e : TypeId) : Own w.heap.size e k (w.alloc (.cells #[] e)) (.slice (some ⟨w.heap.size, 0, none⟩) 0 0) [] := by
  unfold Own
  exact ⟨by simp [nums], .inr ⟨w.heap.size, 0, #[], rfl, Nat.le_refl _, heap_alloc_new w _, Nat.le_refl _, by unfold maxLen; omega, by simp, by simp [nums]⟩⟩
section
variable {P : Program} {w : World}
theorem wpList_pushall64 {ops : Array Oper} {rest : List Oper} {o : Oper} {a : Act} {Q : Exit → Act → World → Prop} {t e : TypeId} {k : IntKind} {bytes : Nat} (he : ElemInfo P t e k bytes) (hby : bytes ≤ 8) (hgd : o.guard = none) (s x : Operand)
    (ho : o.op = .call { callee := .builtin .append, args := #[s, x], argTypes := #[t, t] })
    (base : Nat) (M : List Nat) (v : Value) (hs : a.eval s = v) (hown : Own base e k w v []) (ad : Addr) (c n : Nat) (hx : a.eval x = .slice (some ad) n c) (hn : n = M.length) (hN : Ns k w (some ad) c M) (hlen : M.length ≤ 17592186044416) (hbase : base ≤ w.heap.size)
    (h : ∀ v' w', Own base e k w' v' M → Below base w w' → wpList P ops Q rest (a.put o.dst v') w') : wpList P ops Q (o :: rest) a w := by
  subst hn
  obtain ⟨ht, i, hi, hz, hsz, hbb⟩ := he
  have hb : (([] : List Nat).length + M.length) * bytes ≤ 140737488355328 := by
    have : (([] : List Nat).length + M.length) * bytes ≤ (([] : List Nat).length + M.length) * 8 := Nat.mul_le_mul_left _ hby
    simp at *; omega
  have hcells : ∀ j u, (nums k M)[j]? = some u → w.cell? (ad.add j) = some u := by
    intro j u hu
    have hj : j < M.length := by
      rcases Nat.lt_or_ge j M.length with h | h
      · exact h
      · rw [List.getElem?_eq_none (by rw [nums_len]; exact h)] at hu; cases hu
    obtain ⟨b, off, ea, hc⟩ := hN.2.2 (by omega)
    injection ea with ea
    subst ea
    rw [nums_at k M j hj] at hu
    injection hu with hu
    subst hu
    have h6 := hc j hj
    have e1 : (⟨b, off, none⟩ : Addr).add j = ⟨b, off + j, none⟩ := by
      by_cases h0 : j = 0
      · subst h0; simp [Addr.add]
      · simp [Addr.add, h0]
    rw [e1]; exact h6
  refine wpList_plain hgd fun K hK' => ?_
  obtain ⟨v', w', hrun, h2, h3, _, h5⟩ := run_append_own_at (P := P) w base t o.type e i (.int k 0) 1 bytes ht hi hz hsz hbb rfl (by decide) v ([] : List Nat).length (nums k []) hown ad M.length c (nums k M) (by rw [nums_len, Nat.mul_one]) hcells (by intro u hu; unfold nums at hu; obtain ⟨d, _, rfl⟩ := List.mem_map.1 hu; rfl) (by unfold maxLen; simp; omega) hb hbase
  unfold Oper.wp execOp
  simp only [ho, resolve, invoke, builtin, Sem.run_bind, Sem.run_pure, Result.andThen_ok, List.map_toArray, List.map_cons, List.map_nil, hs, hx, hrun]
  refine hK' _ _ (h v' w' ?_ ?_)
  · unfold Own
    simp only [List.length_nil, Nat.zero_add] at h2
    exact h2
  · exact ⟨h3.os, h3.tape, h3.output, h3.size, fun b hbk => h3.block b (by omega) (fun e => by have := (hown.lt b e.symm).1; omega)⟩
end
/-- numbers of 64 bits -/
abbrev N64 := {n : Nat // n < 18446744073709551616}
instance : Inhabited N64 := ⟨⟨0, by omega⟩⟩
def enc64 (x : N64) : Value := .int .u64 ((x.1 : Nat) : Int)
def cf64 (x y : N64) : Int := cmpI (okey (x.1 : Int)) (okey (y.1 : Int))
theorem lt64 (x y : N64) : ltOf cf64 x y = decide (okey (x.1 : Int) < okey (y.1 : Int)) := by
  unfold ltOf cf64
  rw [decide_eq_decide, cmpI_lt]
theorem swo64 : SWO (ltOf cf64) where
  irrefl x := by rw [lt64]; simp
  trans x y z h1 h2 := by rw [lt64] at *; simp at *; omega
  ntrans x y z h1 h2 := by rw [lt64] at *; simp at *; omega
theorem tot64 (x y : N64) (h1 : ltOf cf64 x y = false) (h2 : ltOf cf64 y x = false) : x = y := by
  rw [lt64] at h1 h2
  have h3 := of_decide_eq_false h1
  have h4 := of_decide_eq_false h2
  exact Subtype.ext (okey_inj _ _ (by omega))
def pack (L : List Nat) (h : AllLt 18446744073709551616 L) : List N64 := L.pmap (fun n hn => (⟨n, hn⟩ : N64)) (fun a ha => h a ha)
theorem pack_val (L : List Nat) (h : AllLt 18446744073709551616 L) : (pack L h).map Subtype.val = L := by
  unfold pack
  rw [List.map_pmap]
  simp
theorem pack_len (L : List Nat) (h : AllLt 18446744073709551616 L) : (pack L h).length = L.length := by unfold pack; simp
/-- the library's order is the reference's -/
theorem merge_sortK (L : List Nat) (h : AllLt 18446744073709551616 L) : ((pack L h).mergeSort fun x y => !(ltOf cf64) y x).map Subtype.val = sortK L := by
  have h1 : ((pack L h).mergeSort fun x y => !(ltOf cf64) y x).Perm (pack L h) := List.mergeSort_perm _ _
  have h2 := List.Perm.map Subtype.val h1
  rw [pack_val] at h2
  refine sorted_uniq ?_ (sortK_sorted L) (h2.trans (sortK_perm L).symm)
  have h3 := List.pairwise_mergeSort (le := fun x y => !(ltOf cf64) y x) (fun a b c hab hbc => by
      simp only [lt64, Bool.not_eq_true', decide_eq_false_iff_not] at *; omega) (fun a b => by
      simp only [lt64, Bool.or_eq_true, Bool.not_eq_true', decide_eq_false_iff_not]; omega) (pack L h)
  unfold SortedK
  rw [List.pairwise_map]
  refine h3.imp fun {a b} hab => ?_
  simp only [lt64, Bool.not_eq_true', decide_eq_false_iff_not] at hab
  omega
theorem lb_ext64 {L M : List Nat} (hl : L.length = M.length) (h : ∀ j, j < L.length → lb L j = lb M j) : L = M := by
  refine List.ext_getElem hl (fun j h1 h2 => ?_)
  have := h j h1
  unfold lb at this
  rw [List.getD_eq_getElem?_getD, List.getElem?_eq_getElem h1, List.getD_eq_getElem?_getD, List.getElem?_eq_getElem h2] at this
  exact Int.ofNat_inj.1 (by simpa using this)
theorem below_sort {α : Type} [Inhabited α] (enc : α → Value) (w : World) (g n B : Nat) (d : Array α) (os : Array Obj) (hg : B ≤ g) (hB : B ≤ w.heap.size) : Below B w (sortWorld enc w g 0 n d os) := by
  have hs : (putRow enc (Sort.ahead w n) g 0 d).heap.size = w.heap.size := by simp [putRow, mapBlock]
  refine ⟨rfl, rfl, rfl, ?_, fun k hk => ?_⟩
  · unfold sortWorld; rw [size_grow, hs]; omega
  · unfold sortWorld
    rw [heap_grow_old _ _ (by rw [hs]; omega)]
    have : g ≠ k := by omega
    simp [putRow, mapBlock, Sort.ahead, Array.getElem?_modify, this]
theorem enc_sorted (L : List Nat) (h : AllLt 18446744073709551616 L) (i : Nat) (hi : i < L.length) : enc64 (((pack L h).mergeSort fun x y => !(ltOf cf64) y x).toArray)[i]! = .int .u64 (lb (sortK L) i) := by
  have h1 := merge_sortK L h
  obtain ⟨S, hS⟩ : ∃ S, S = (pack L h).mergeSort fun x y => !(ltOf cf64) y x := ⟨_, rfl⟩
  rw [← hS] at h1 ⊢
  have h2 : i < S.length := by rw [hS, List.length_mergeSort, pack_len]; exact hi
  unfold enc64 lb
  rw [← h1, List.getD_eq_getElem?_getD, List.getElem?_map, List.getElem?_eq_getElem h2, getElem!_pos _ _ (by simpa using h2)]
  simp
end Go.Ulp
namespace Go.Proofs.Ytincggkdlegjjaa
open Go.RowKit Go.Ulp Go.Sort
set_option linter.unusedVariables false
set_option linter.unusedSimpArgs false
set_option maxHeartbeats 1600000
set_option maxRecDepth 100000
theorem clone64_any (ao : Option Addr) (c : Nat) (L : List Nat) (w : World) (h : Ns .u64 w ao c L) (hl : L.length ≤ 17592186044415) :
    Calls Try.prog 21 #[.slice ao L.length c] w fun e w' => ∃ v, e = .returned v ∧ Own w.heap.size 22 .u64 w' v L ∧ Below w.heap.size w w' := by
  cases ao with
  | none =>
    have hn : L = [] := by
      rcases Nat.eq_zero_or_pos L.length with h0 | h0
      · exact List.length_eq_zero_iff.1 h0
      · obtain ⟨_, _, e, _⟩ := h.2.2 h0; cases e
    have HN := hid hn
    clear hn
    have hq := fun w => run_eql_slice_nil64 (P := Try.prog) w 23 22 none L.length c 0 0 ei_u64.1
    go_enter Try.func21, Try.ntmps21
    go_wp2_with fail
    go_ret
    exact ⟨_, rfl, by rw [HN.out]; exact Own.nil, Below.refl _ _⟩
  | some a =>
    have hq := fun w => run_eql_slice_nil64 (P := Try.prog) w 23 22 (some a) L.length c 0 0 ei_u64.1
    go_enter Try.func21, Try.ntmps21
    go_wp2_with (at_builtin; go_loud (refine wpList_pushall64 ei_u64 (by omega) rfl _ _ rfl w.heap.size L _ rfl (own_empty64 w .u64 22) _ _ _ rfl rfl (h.below (below_alloc _ _)) (by omega) (by simp) ?_; intro v1 w1 hown1 hb1))
    go_ret
    exact ⟨v1, rfl, hown1, (below_alloc _ _).trans hb1⟩
theorem cmpReads64 (blk off size : Nat) (w : World) : CmpReads Try.prog 9 #[] enc64 cf64 blk off size w :=
  fun _ _ _ _ x y => (total_any (x.1 : Int) (y.1 : Int) ⟨by omega, by have := x.2; omega⟩ ⟨by omega, by have := y.2; omega⟩ _).mono fun _ _ ⟨he, hw⟩ => ⟨he, 0, hw.symm⟩
theorem sort_any (ao : Option Addr) (cap : Nat) (L : List Nat) (w : World) (h : Ns .u64 w ao cap L) (hL : AllLt 18446744073709551616 L) (hl : L.length ≤ 17592186044415) :
    Calls Try.prog 11 #[.slice ao L.length cap] w (RetL64 w (sortK L)) := by
  have CL := hid (fun w h => clone64_any ao cap L w h hl)
  have H0 := hid h
  have hcap := h.1
  have hcap2 := h.2.1
  unfold maxLen at hcap2
  rcases Nat.eq_zero_or_pos L.length with hz | hz
  · obtain rfl : L = [] := List.length_eq_zero_iff.1 hz
    rw [show sortK [] = [] from rfl]
    have SF := hid (fun p c fv w => Try.slices_SortFunc_none (α := Nat) p c fv w)
    clear h hL hz
    go_enter Try.func11, Try.ntmps11
    go_wp2_with (first
      | (go_at_call 21; refine (CL.out _ H0.out).mono ?_; rintro en w1 ⟨v1, rfl, hown1, hb1⟩; obtain ⟨a1, c1, rfl, hN1⟩ := hown1.ns)
      | (go_at_call 22; refine (SF.out _ _ _ _).mono ?_; rintro en w2 ⟨rfl, rfl⟩))
    go_ret
    exact ⟨a1, c1, rfl, hN1, hb1⟩
  · have HL := hid hL
    have HZ := hid hz
    clear h hL hz
    go_enter Try.func11, Try.ntmps11
    go_upto_region 2 with (go_at_call 21; (with_reducible refine (CL.out _ H0.out).mono ?_); rintro en w1 ⟨v1, rfl, hown1, hb1⟩)
    have ho := hown1.2
    rcases ho with ⟨h8, h9⟩ | ⟨g, cap1, cur, rfl, hg, hh, r1, r2, r3, r4⟩
    · have := HZ.out
      omega
    · have eg : ∀ args w, (callFunc 9 args).run Try.prog w = .ok (.enter 9 args) w := enters_of Try.func9 (by kernel_rfl) rfl
      have hd : (pack L HL.out).toArray.size = L.length := by rw [List.size_toArray, pack_len]
      have hlt := World.ownsRow.lt hown1 g rfl
      have hH : Holds enc64 w1 g 0 (pack L HL.out).toArray := fun j hj => by
        rw [hd] at hj
        rw [Nat.zero_add]
        refine ⟨?_, hown1.free j⟩
        rw [hown1.cell j hj]
        have h2 : j < (pack L HL.out).length := by rw [pack_len]; exact hj
        have h3 : (pack L HL.out).map Subtype.val = L := pack_val L HL.out
        unfold enc64 lb
        conv => lhs; rw [← h3]
        rw [List.getD_eq_getElem?_getD, List.getElem?_map, List.getElem?_eq_getElem h2, getElem!_pos _ _ (by simpa using h2)]
        simp
      have hcon := Try.slices_SortFunc_total enc64 (fun _ => rfl) cf64 swo64 9 #[] g 0 cap1 (pack L HL.out).toArray w1 eg (cmpReads64 g 0 _ w1).lays hH hlt.2 (by rw [hd]; omega) tot64
      have hSW := fun n os => (SW.holds (dk := ((pack L HL.out).mergeSort fun x y => !(ltOf cf64) y x).toArray) (enc := enc64) (w0 := w1) (blk := g) (off := 0) ⟨n, os, rfl⟩ hlt.2 hH (by rw [hd, List.size_toArray, List.length_mergeSort, pack_len]) : Holds enc64 (sortWorld enc64 w1 g 0 n _ os) g 0 _)
      have hBS := fun n d os => below_sort enc64 w1 g n w.heap.size d os hg hb1.size
      rw [hd] at hcon
      have HC := hid hcon
      have HSW := hid hSW
      have HB := hid hBS
      clear hcon hSW hBS hH eg hh r3 r4 hown1 hd
      go_wp2_with (go_at_call 22; refine HC.out.mono ?_; rintro en w2 ⟨rfl, n9, os9, rfl⟩)
      go_ret
      refine ⟨some ⟨g, 0, none⟩, cap1, by rw [sortK_len]; rfl, ⟨by rw [sortK_len]; exact r1, r2, fun _ => ⟨g, 0, rfl, fun i hi => ?_⟩⟩, hb1.trans (HB.out n9 _ os9)⟩
      rw [sortK_len] at hi
      have h9 := (HSW.out n9 os9 i (by rw [List.size_toArray, List.length_mergeSort, pack_len]; exact hi)).1
      rw [enc_sorted L HL.out i hi] at h9
      exact h9
theorem equal64_any (a0 a1 : Option Addr) (c0 c1 : Nat) (L M : List Nat) (w : World) (h0 : Ns .u64 w a0 c0 L) (h1 : Ns .u64 w a1 c1 M) :
    Calls Try.prog 10 #[.slice a0 L.length c0, .slice a1 M.length c1] w fun e w' => e = .returned (.bool (decide (L = M))) ∧ Below w.heap.size w w' := by
  obtain ⟨h01, h02, h03⟩ := h0
  obtain ⟨h11, h12, h13⟩ := h1
  unfold maxLen at h02 h12
  by_cases hl : L.length = M.length
  · have hlb : ((L.length : Int) != (M.length : Int)) = false := by rw [bne_eq_false_iff_eq]; omega
    have hl1 : L.length ≤ M.length := by omega
    have hl2 : M.length ≤ L.length := by omega
    have HL := hid hl
    have HR := hid (fun (b : Bool) (h : b = decide (L = M)) => h)
    have HX := hid (fun h => lb_ext64 hl h)
    have HN := hid (fun (j : Nat) (h : lb L j ≠ lb M j) => (fun e => h (by rw [e]) : ¬ L = M))
    clear hl
    go_enter Try.func10, Try.ntmps10
    go_wp2_with fail
    go_loopw [13] (fun i wr => ∃ i0 : Nat, i = .int .i64 (i0 : Int) ∧ i0 ≤ L.length ∧ (∀ j, j < i0 → lb L j = lb M j) ∧ Below w.heap.size w wr) (fun i _ => (L.length - (intOf i).toNat))
    case atStart => exact ⟨0, rfl, by omega, fun j hj => by omega, Below.refl _ _⟩
    case round =>
      obtain ⟨j, rfl, hi1, hdr, hb⟩ := hrel
      by_cases hi : (j : Int) < (L.length : Int)
      · obtain ⟨b0, o0, rfl, hc0⟩ := h03 (by omega)
        obtain ⟨b1, o1, rfl, hc1⟩ := h13 (by omega)
        have k0 := (hb.cell (p := ⟨b0, o0 + j, none⟩) (World.block_lt_of_cell? _ _ (hc0 j (by omega)))).trans (hc0 j (by omega))
        have k1 := (hb.cell (p := ⟨b1, o1 + j, none⟩) (World.block_lt_of_cell? _ _ (hc1 j (by omega)))).trans (hc1 j (by omega))
        clear hc0 hc1 h03 h13
        have HD := hid hdr
        clear hdr
        have hj1 : (j : Int) < (M.length : Int) := by omega
        by_cases he : lb L j = lb M j
        · have heb : (lb L j != lb M j) = false := by simpa using he
          have HE := hid he
          clear he
          go_wp2_with fail
          go_quiet (fail)
          go_wp2_with fail
          go_roundw
          case rel => exact ⟨j + 1, by go_num, by omega, fun i hi => by
            by_cases e : i = j
            · rw [e]; exact HE.out
            · exact HD.out i (by omega), by (repeat' (first | (with_reducible assumption) | (with_reducible exact Below.refl _ _) | (with_reducible refine below_al ?_ _) | (with_reducible refine below_drewN ?_ _) | (with_reducible refine Below.drew ?_) | (with_reducible refine Below.alloc ?_ ?_ _) | (with_reducible refine Below.setCell ?_ ?_ _) | (refine below_trans ?_ (by assumption)) | go_size))⟩
          case measure => simp [intOf]; omega
        · have heb : (lb L j != lb M j) = true := by simpa using he
          have HF := hid (HN.out j he)
          clear he
          go_wp2_with fail
          go_quiet (fail)
          go_wp2_with fail
          go_ret
          exact ⟨ret_bool (by rw [decide_eq_false HF.out]), by (repeat' (first | (with_reducible assumption) | (with_reducible exact Below.refl _ _) | (with_reducible refine below_al ?_ _) | (with_reducible refine below_drewN ?_ _) | (with_reducible refine Below.drew ?_) | (with_reducible refine Below.alloc ?_ ?_ _) | (with_reducible refine Below.setCell ?_ ?_ _) | (refine below_trans ?_ (by assumption)) | go_size))⟩
      · have HD := hid (fun k (hk : k < L.length) => hdr k (by omega))
        clear hdr
        go_wp2_with fail
        go_ret
        exact ⟨ret_bool (by rw [decide_eq_true (HX.out HD.out)]), by (repeat' (first | (with_reducible assumption) | (with_reducible exact Below.refl _ _) | (with_reducible refine below_al ?_ _) | (with_reducible refine below_drewN ?_ _) | (with_reducible refine Below.drew ?_) | (with_reducible refine Below.alloc ?_ ?_ _) | (with_reducible refine Below.setCell ?_ ?_ _) | (refine below_trans ?_ (by assumption)) | go_size))⟩
  · have hlb : ((L.length : Int) != (M.length : Int)) = true := by rw [bne_iff_ne]; omega
    have HF := hid (show ¬ L = M from fun e => hl (by rw [e]))
    clear hl
    go_enter Try.func10, Try.ntmps10
    go_wp2_with fail
    go_ret
    exact ⟨ret_bool (by rw [decide_eq_false HF.out]), Below.refl _ _⟩
end Go.Proofs.Ytincggkdlegjjaa
