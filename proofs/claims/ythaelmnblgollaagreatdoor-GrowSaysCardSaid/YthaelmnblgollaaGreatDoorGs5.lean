/- Expansions: grow.Add. -/
import Derived.Test.YthaelmnblgollaaGreatDoorGs1
import Derived.Test.YthaelmnblgollaaGreatDoorAp
import Derived.Maps.AppendAt
import Derived.Test.YthaelmnblgollaaGreatDoorSu3
set_option linter.unusedVariables false
set_option linter.unusedSimpArgs false
namespace Go.Ulp
open Go.RowKit
/-- a number carried through a list: what is carried, and what is left -/
def zN (h : Nat) : Bool := decide (classOf (h : Int) = 1)
def grQ (L : List Nat) (x : Nat) : Nat → Nat
  | 0 => x
  | i + 1 => plusN (grQ L x i) (L.getD i 0)
def grH (L : List Nat) (x i : Nat) : Nat := restN (grQ L x i) (L.getD i 0)
def grO (L : List Nat) (x : Nat) : Nat → List Nat
  | 0 => []
  | i + 1 => if zN (grH L x i) = true then grO L x i else grO L x i ++ [grH L x i]
def grF (L : List Nat) (x : Nat) : Nat → Bool
  | 0 => false
  | i + 1 => grF L x i || !hasVal ((grQ L x (i + 1) : Nat) : Int)
def gwL (L : List Nat) (x : Nat) : List Nat := if zN (grQ L x L.length) = true then grO L x L.length else grO L x L.length ++ [grQ L x L.length]
theorem prE_zero' (L : List Nat) (h : prE L = 0) : L.length ≤ 60 ∧ noTo L L.length = false ∧ badTo L L.length = false := by
  unfold prE at h
  by_cases h1 : 60 < L.length
  · rw [if_pos h1] at h; omega
  · rw [if_neg h1] at h
    cases hn : noTo L L.length
    · rw [hn] at h
      cases hb : badTo L L.length
      · exact ⟨by omega, rfl, rfl⟩
      · rw [hb] at h; simp at h
    · rw [hn] at h; simp at h
theorem no_vals' (L : List Nat) (h : noTo L L.length = false) : ∀ j, j < L.length → hasVal (lb L j) = true := by
  intro j hj
  cases hv : hasVal (lb L j) with
  | true => rfl
  | false => rw [(noTo_iff L L.length).2 ⟨j, hj, hv⟩] at h; cases h
/-- what Add answers -/
def gwE (L : List Nat) (x : Nat) : Int := if prE L = 0 then (if hasVal (x : Int) = true then (if grF L x L.length = true then 2 else 0) else 4) else prE L
def gwA (L : List Nat) (x : Nat) : List Nat := if gwE L x = 0 then gwL L x else []
theorem grQ_lt (L : List Nat) (x : Nat) (hx : x < 18446744073709551616) : ∀ i, grQ L x i < 18446744073709551616
  | 0 => hx
  | i + 1 => plusN_lt _ _
theorem grH_lt (L : List Nat) (x i : Nat) : grH L x i < 18446744073709551616 := restN_lt _ _
theorem grF_mono (L : List Nat) (x i : Nat) (h : grF L x i = true) : ∀ j, i ≤ j → grF L x j = true := by
  intro j hj
  obtain ⟨k, rfl⟩ : ∃ k, j = i + k := ⟨j - i, by omega⟩
  clear hj
  induction k with
  | zero => exact h
  | succ k ih => show (grF L x (i + k) || _) = true; rw [ih]; rfl
theorem grQ_val (L : List Nat) (x : Nat) (hx : hasVal (x : Int) = true) : ∀ i, grF L x i = false → hasVal ((grQ L x i : Nat) : Int) = true
  | 0, _ => hx
  | i + 1, h => by
    have h2 : (grF L x i || !hasVal ((grQ L x (i + 1) : Nat) : Int)) = false := h
    cases hv : hasVal ((grQ L x (i + 1) : Nat) : Int) with
    | true => rfl
    | false => rw [hv, Bool.not_false, Bool.or_true] at h2; cases h2
theorem grO_len (L : List Nat) (x : Nat) : ∀ i, (grO L x i).length ≤ i
  | 0 => Nat.le_refl _
  | i + 1 => by
    have := grO_len L x i
    show (if zN (grH L x i) = true then grO L x i else grO L x i ++ [grH L x i]).length ≤ i + 1
    split
    · omega
    · rw [List.length_append]; simp; omega
theorem grO_lt (L : List Nat) (x : Nat) : ∀ i, AllLt 18446744073709551616 (grO L x i)
  | 0 => fun d h => by cases h
  | i + 1 => by
    have h1 := grO_lt L x i
    show AllLt _ (if zN (grH L x i) = true then grO L x i else grO L x i ++ [grH L x i])
    split
    · exact h1
    · exact AllLt.append.2 ⟨h1, fun d h => by rw [List.mem_singleton.1 h]; exact grH_lt L x i⟩
theorem gwL_lt (L : List Nat) (x : Nat) (hx : x < 18446744073709551616) : AllLt 18446744073709551616 (gwL L x) := by
  unfold gwL
  split
  · exact grO_lt L x _
  · exact AllLt.append.2 ⟨grO_lt L x _, fun d h => by rw [List.mem_singleton.1 h]; exact grQ_lt L x hx _⟩
theorem gwL_len (L : List Nat) (x : Nat) : (gwL L x).length ≤ L.length + 1 := by
  have := grO_len L x L.length
  unfold gwL
  split
  · omega
  · rw [List.length_append]; simp; omega
section
variable {P : Program} {w : World}
/-- one more, the other blocks kept -/
theorem wpList_push64k {ops : Array Oper} {rest : List Oper} {o : Oper} {a : Act} {Q : Exit → Act → World → Prop} {t e : TypeId} {k : IntKind} {bytes : Nat} (he : ElemInfo P t e k bytes) (hby : bytes ≤ 8) (hgd : o.guard = none) (s x : Operand)
    (ho : o.op = .call { callee := .builtin .append, args := #[s, x], argTypes := #[t, t] })
    (base : Nat) (L : List Nat) (d : Nat) (v : Value) (hs : a.eval s = v) (hown : Own base e k w v L) (ad : Addr) (hx : a.eval x = .slice (some ad) 1 1)
    (hcell : w.cell? ad = some (.int k (d : Int))) (hlen : L.length ≤ 17592186044415) (hbase : base ≤ w.heap.size)
    (h : ∀ v' w', Own base e k w' v' (L ++ [d]) → Below base w w' → (∀ b, b < w.heap.size → v.ownBlock ≠ some b → w'.heap[b]? = w.heap[b]?) → (v'.ownBlock = v.ownBlock ∨ v'.ownBlock = some w.heap.size) → wpList P ops Q rest (a.put o.dst v') w') : wpList P ops Q (o :: rest) a w := by
  obtain ⟨ht, i, hi, hz, hsz, hb⟩ := he
  refine wpList_append_own_at w hgd s x t ho base e i (.int k 0) 1 bytes ht hi hz hsz hb rfl (by decide) v L.length _ hs hown ad 1 1 [.int k (d : Int)] hx rfl ?_ ?_ ?_ ?_ hbase ?_
  · intro j u hj
    match j, hj with
    | 0, hj => simp at hj; subst hj; simpa [Addr.add] using hcell
  · intro u hu; simp at hu; subst hu; rfl
  · unfold maxLen; omega
  · have : (L.length + 1) * bytes ≤ (L.length + 1) * 8 := Nat.mul_le_mul_left _ hby
    omega
  · intro v' w' h1 h2 _ h4
    refine h v' w' ?_ ?_ ?_ h4
    · unfold Own nums; rw [List.length_append, List.map_append]; exact h1
    · exact ⟨h2.os, h2.tape, h2.output, h2.size, fun b hbk => h2.block b (by omega) (fun e => by have := (hown.lt b e.symm).1; omega)⟩
    · exact fun b hb hne => h2.block b hb (fun e => hne e.symm)
end
theorem Own.off {base : Nat} {e : TypeId} {k : IntKind} {w : World} {v : Value} {L : List Nat} (h : Own base e k w v L) (a : Addr) (hne : v.ownBlock ≠ some a.block) (u : Value) : Own base e k (w.setCell a u) v L := by
  obtain ⟨h1, h2⟩ := h
  refine ⟨h1, ?_⟩
  rcases h2 with hn | ⟨g', cap', cur, hv, hg, hh, rest⟩
  · exact .inl hn
  · refine .inr ⟨g', cap', cur, hv, hg, ?_, rest⟩
    have hne2 : a.block ≠ g' := by intro e9; apply hne; rw [hv, e9]; rfl
    rw [← hh]
    exact heap_setCell_other w a g' u (Ne.symm hne2)
/-- the variable of a list that grows, and its block apart from the list's -/
def GV (base : Nat) (e : TypeId) (w : World) (g : Nat) (Q : List Nat) : Prop := ∃ v, CV w g v ∧ Own base e .u64 w v Q ∧ v.ownBlock ≠ some g
theorem GV.below {base : Nat} {e : TypeId} {w w' : World} {g : Nat} {Q : List Nat} (h : GV base e w g Q) (hb : Below w.heap.size w w') : GV base e w' g Q := by
  obtain ⟨v, h1, h2, h3⟩ := h
  exact ⟨v, h1.below hb, h2.kept hb, h3⟩
end Go.Ulp
namespace Go.Proofs.YthaelmnblgollaaGreatDoor
open Go.RowKit Go.Ulp
set_option linter.unusedVariables false
set_option linter.unusedSimpArgs false
set_option maxHeartbeats 2000000
set_option maxRecDepth 100000
theorem add1_any (base g : Nat) (Q : List Nat) (h : Nat) (hh : h < 18446744073709551616) (w : World) (hQ : Q.length ≤ 1000000) (hg : base ≤ g) (hbase : base ≤ w.heap.size) (hv : GV base 23 w g Q) :
    Calls Tryz.prog 63 #[.int .u64 (h : Int), .pointer (some ⟨g, 0, none⟩)] w fun e w' => (∃ r, e = .returned r) ∧ GV base 23 w' g (if zN h = true then Q else Q ++ [h]) ∧ Below base w w' := by
  have CL := hid (fun w => class_any (h : Int) (by omega) (by omega) w)
  have HZ := hid (show zN h = decide (classOf (h : Int) = 1) from rfl)
  obtain ⟨c, hc⟩ : ∃ c, c = classOf (h : Int) := ⟨_, rfl⟩
  rw [← hc] at CL HZ
  by_cases h1 : c = 1
  · have hz : zN h = true := by rw [HZ.out, h1]; rfl
    rw [if_pos hz]
    have hb1 : (c != 1) = false := by rw [h1]; rfl
    clear hc HZ hz h1
    go_enter Tryz.func63, Tryz.ntmps63
    go_wp2_with (go_at_call 64; (with_reducible refine (CL.out _).mono ?_); rintro en w1 ⟨rfl, rfl⟩)
    refine bodyPost_end (results_none rfl _ _ _) rfl ?_
    exact ⟨⟨_, rfl⟩, hv, Below.refl _ _⟩
  · have hz : ¬ zN h = true := by rw [HZ.out, decide_eq_true_eq]; exact h1
    rw [if_neg hz]
    have hb1 : (c != 1) = true := bne_iff_ne.2 h1
    obtain ⟨v, ⟨k0, k1⟩, hown, hne⟩ := hv
    have hgl := World.block_lt_of_cell? _ _ k0
    have HN := hid hne
    clear hc HZ hz h1 hne
    go_enter Tryz.func63, Tryz.ntmps63
    go_wp2_with (first
      | (go_at_call 64; (with_reducible refine (CL.out _).mono ?_); rintro en w1 ⟨rfl, rfl⟩)
      | (at_builtin; go_loud (refine wpList_push64k ei_u64 (by omega) rfl _ _ rfl base Q h _ rfl (Own.alloc hown _) ⟨w.heap.size, 0, none⟩ rfl (cell_push _ _ _ _ _ rfl) (by omega) (by simp; omega) ?_; intro v1 w1 hown1 hb1 hk1 hob; have hkg := hk1 g (by simp; omega) HN.out; have c0 := (World.cell?_of_block (a := ⟨g, 0, none⟩) hkg).trans (((below_alloc w _).cell (p := ⟨g, 0, none⟩) hgl).trans k0); have c1 := (World.frozen?_of_block (a := ⟨g, 0, none⟩) hkg).trans (((below_alloc w _).frozen (p := ⟨g, 0, none⟩) hgl).trans k1); obtain ⟨a1, cp1, rfl, hN1⟩ := hown1.ns)))
    have hn1 : Value.ownBlock (.slice a1 (Q ++ [h]).length cp1) ≠ some g := by
      rcases hob with e9 | e9
      · rw [e9]; exact HN.out
      · rw [e9]; simp; omega
    have hcv : CV w1 g v := ⟨c0, c1⟩
    simp only [List.length_append, List.length_cons, List.length_nil, Nat.zero_add] at hn1 hown1
    have hw := (((below_alloc w (.cells #[.int .u64 (h : Int)] 23)).mono hbase).trans hb1)
    refine bodyPost_end (results_none rfl _ _ _) rfl ?_
    exact ⟨⟨_, rfl⟩, ⟨_, hcv.put, hown1.off ⟨g, 0, none⟩ hn1 _, hn1⟩, hw.setCell (p := ⟨g, 0, none⟩) hg _⟩
theorem clip64_any (ao : Option Addr) (cap : Nat) (L : List Nat) (w : World) (h : Ns .u64 w ao cap L) :
    Calls Tryz.prog 66 #[.slice ao L.length cap] w fun e w' => (∃ c, e = .returned (.slice ao L.length c) ∧ Ns .u64 w ao c L) ∧ w = w' := by
  have HN := hid h
  have h1 := h.1
  have h2 := h.2.1
  unfold maxLen at h2
  have HR := hid (show Ns .u64 w ao L.length L from ⟨Nat.le_refl _, by unfold maxLen; omega, h.2.2⟩)
  cases ao with
  | none =>
    have hz : L.length = 0 := by
      rcases Nat.eq_zero_or_pos L.length with h0 | h0
      · exact h0
      · obtain ⟨_, _, e, _⟩ := h.2.2 h0; cases e
    rw [hz] at h1 HR ⊢
    clear h
    go_enter Tryz.func66, Tryz.ntmps66
    go_wp2_with fail
    go_ret
    exact ⟨⟨_, rfl, HR.out⟩, rfl⟩
  | some a =>
    clear h
    go_enter Tryz.func66, Tryz.ntmps66
    go_wp2_with fail
    go_ret
    exact ⟨⟨_, rfl, HR.out⟩, rfl⟩
theorem growAdd_any (ao : Option Addr) (cap : Nat) (L : List Nat) (x : Nat) (w : World) (h : Ns .u64 w ao cap L) (hL : ∀ j, lb L j < 18446744073709551616) (hx : x < 18446744073709551616) (hT : Tab 0 w) :
    Calls Tryz.prog 11 #[.slice ao L.length cap, .int .u64 (x : Int)] w fun e w' => ∃ a c, e = .returned (.tuple #[.slice a (gwA L x).length c, .int .i64 (gwE L x)]) ∧ Ns .u64 w' a c (gwA L x) ∧ Below w.heap.size w w' := by
  have CK := hid (fun w h t => growCheck_any ao cap L w h hL t)
  have HN := hid h
  have hcap := h.1
  have hcap2 := h.2.1
  unfold maxLen at hcap2
  have HT := hid hT
  have HVX := hid (fun w => hasValue_any (x : Int) (by omega) (by omega) w)
  by_cases hp : prE L = 0
  · rw [hp] at CK
    obtain ⟨p1, p2, -⟩ := prE_zero' L hp
    cases hv : hasVal (x : Int)
    · rw [hv] at HVX
      have e1 : gwE L x = 4 := by unfold gwE; rw [if_pos hp, hv]; rfl
      have e2 : gwA L x = [] := by unfold gwA; rw [e1]; rfl
      rw [e1, e2]
      clear h hL hT hp p1 p2 hv e1 e2
      go_enter Tryz.func11, Tryz.ntmps11
      go_wp2_with (first
        | (go_at_call 14; (with_reducible refine (CK.out _ HN.out HT.out).mono ?_); rintro en w1 ⟨rfl, hb1⟩)
        | (go_at_call 62; (with_reducible refine (HVX.out _).mono ?_); rintro en w2 ⟨rfl, rfl⟩))
      go_ret2
      exact ⟨none, 0, rfl, Ns.nil, hb1⟩
    · rw [hv] at HVX
      have e1 : gwE L x = if grF L x L.length = true then 2 else 0 := by unfold gwE; rw [if_pos hp, if_pos hv]
      have QV := hid (fun i h => grQ_val L x hv i h)
      have QL := hid (grQ_lt L x hx)
      have VL := hid (show ∀ j, j < L.length → hasVal (lb L j) = true from no_vals' L p2)
      have FM := hid (fun i h => grF_mono L x i h L.length)
      have TS := hid (fun (a b : Nat) ha hb w t => twoSum_any a b ha hb w t)
      have HLL := hid hL
      have OL := hid (grO_len L x)
      have hE1 := hid e1
      have hA1 := hid (show gwA L x = if gwE L x = 0 then gwL L x else [] from rfl)
      have hmf : ∀ fn first cap w, (Instr.makeFunc fn first cap).run Tryz.prog w = .ok (.func fn first cap) w := fun _ _ _ _ => rfl
      clear h hL hT hp p2 hv e1
      go_enter Tryz.func11, Tryz.ntmps11
      go_upto_region 7 with (first
        | (go_at_call 14; (with_reducible refine (CK.out _ HN.out HT.out).mono ?_); rintro en w1 ⟨rfl, hb1⟩)
        | (go_at_call 62; (with_reducible refine (HVX.out _).mono ?_); rintro en w2 ⟨rfl, rfl⟩))
      refine wp_wld (fun WW => Below w.heap.size w WW ∧ GV w.heap.size 23 WW w1.heap.size []) ⟨below_trans hb1 (below_alloc _ _), ⟨_, CV.made, Own.nil, by simp [Value.ownBlock]⟩⟩ ?_
      intro W1 ⟨y1, v7⟩
      obtain ⟨g7, hg7⟩ : ∃ g, g = w1.heap.size := ⟨_, rfl⟩
      have b7 : w.heap.size ≤ g7 := by rw [hg7]; exact hb1.size
      rw [← hg7] at v7 ⊢
      clear hg7 hb1
      have V7 := hid v7
      clear v7
      go_wp2_with fail
      go_loopw [9, 11, 12, 13, 14, 27] (fun s9 _ _ _ _ s27 wr => ∃ i : Nat, s27 = .int .i64 (i : Int) ∧ i ≤ L.length ∧ s9 = .int .u64 ((grQ L x i : Nat) : Int) ∧ grF L x i = false ∧ GV w.heap.size 23 wr g7 (grO L x i) ∧ Below w.heap.size w wr) (fun _ _ _ _ _ i _ => (L.length - (intOf i).toNat))
      case atStart => exact ⟨0, rfl, by omega, rfl, rfl, V7.out, y1⟩
      case round =>
        obtain ⟨i, rfl, hi, rfl, hF, hG, yr⟩ := hrel
        have HF := hid hF
        have HG := hid hG
        have hql := QL.out i
        have hqv := QV.out i hF
        clear hF hG V7 y1
        by_cases hi2 : (i : Int) < (L.length : Int)
        · obtain ⟨b0, o0, rfl, hc0⟩ := HN.out.2.2 (by omega)
          have k0 := (yr.cell (p := ⟨b0, o0 + i, none⟩) (World.block_lt_of_cell? _ _ (hc0 i (by omega)))).trans (hc0 i (by omega))
          have hyl : L.getD i 0 < 18446744073709551616 := by have := HLL.out i; unfold lb at this; omega
          have hyv := VL.out i (by omega)
          have HQ1 := hid (show grQ L x (i + 1) = plusN (grQ L x i) (L.getD i 0) from rfl)
          have HH1 := hid (show grH L x i = restN (grQ L x i) (L.getD i 0) from rfl)
          have HF1 := hid (show grF L x (i + 1) = (grF L x i || !hasVal ((grQ L x (i + 1) : Nat) : Int)) from rfl)
          have HO1 := hid (show grO L x (i + 1) = if zN (grH L x i) = true then grO L x i else grO L x i ++ [grH L x i] from rfl)
          have hhl := grH_lt L x i
          have TS1 := hid (TS.out (grQ L x i) (L.getD i 0) hql hyl)
          have ev : (hasVal ((grQ L x i : Nat) : Int) && hasVal ((L.getD i 0 : Nat) : Int)) = true := by
            have : hasVal ((L.getD i 0 : Nat) : Int) = true := hyv
            rw [hqv, this]; rfl
          rw [ev, ← HQ1.out, ← HH1.out] at TS1
          have hol := OL.out i
          have FM1 := hid (fun h => FM.out (i + 1) h (by omega))
          have hk1 : wr.cell? ⟨b0, o0 + i, none⟩ = some (.int .u64 ((L.getD i 0 : Nat) : Int)) := k0
          obtain ⟨y, hy⟩ : ∃ y, y = L.getD i 0 := ⟨_, rfl⟩
          rw [← hy] at hk1 TS1 hyl
          obtain ⟨q, hq⟩ : ∃ q, q = grQ L x i := ⟨_, rfl⟩
          rw [← hq] at TS1 ⊢
          obtain ⟨q1, hq1⟩ : ∃ q, q = grQ L x (i + 1) := ⟨_, rfl⟩
          have HQN := hid hq1
          rw [← hq1] at TS1 HF1
          obtain ⟨r1, hr1⟩ : ∃ q, q = grH L x i := ⟨_, rfl⟩
          rw [← hr1] at TS1 HO1 hhl
          obtain ⟨O, hO⟩ : ∃ q, q = grO L x i := ⟨_, rfl⟩
          rw [← hO] at HG HO1 hol
          clear k0 hc0 hy hq hq1 hr1 hO HQ1 HH1 ev hyv hqv QV QL VL TS HLL OL FM
          cases hh : hasVal (q1 : Int)
          · have HE := hid (show gwE L x = 2 by rw [hE1.out, FM1.out (by rw [HF1.out, hh]; simp)]; rfl)
            have HA := hid (show gwA L x = [] by rw [hA1.out, HE.out]; rfl)
            rw [hh, pk_tf, pk_tf, pkE_tf] at TS1
            clear HF1 FM1 hE1 hA1 HO1 hh
            go_wp2_with (go_at_call 65; (with_reducible refine (TS1.out _ (HT.out.below yr)).mono ?_); rintro en w2 ⟨rfl, hb2⟩)
            go_ret2
            exact ⟨none, 0, by rw [HE.out, HA.out]; rfl, by rw [HA.out]; exact Ns.nil, below_trans yr hb2⟩
          · have HF2 := hid (show grF L x (i + 1) = false by rw [HF1.out, HF.out, hh]; rfl)
            rw [hh, pk_tt, pk_tt, pkE_tt] at TS1
            have AD := hid (fun w9 hb hv => add1_any w.heap.size g7 O r1 hhl w9 (by omega) b7 hb hv)
            clear HF1 FM1 hE1 hA1 hh
            go_wp2_with (first
              | (go_at_call 65; (with_reducible refine (TS1.out _ (HT.out.below yr)).mono ?_); rintro en w2 ⟨rfl, hb2⟩; have y2 := below_trans yr hb2)
              | (go_at_call 63; (with_reducible refine (AD.out _ y2.size (HG.out.below hb2)).mono ?_); rintro en w3 ⟨⟨r9, rfl⟩, hv3, hb3⟩))
            go_roundw
            case rel => exact ⟨i + 1, by go_num, by omega, by rw [← HQN.out], HF2.out, by rw [HO1.out]; exact hv3, y2.trans hb3⟩
            case measure => first | (simp [intOf]; done) | (simp [intOf]; omega)
        · have hie : i = L.length := by omega
          subst hie
          have HE := hid (show gwE L x = 0 by rw [hE1.out, HF.out]; rfl)
          have HA := hid (show gwA L x = if zN (grQ L x L.length) = true then grO L x L.length else grO L x L.length ++ [grQ L x L.length] by rw [hA1.out, HE.out]; rfl)
          have hol := OL.out L.length
          obtain ⟨q, hq⟩ : ∃ q, q = grQ L x L.length := ⟨_, rfl⟩
          obtain ⟨O, hO⟩ : ∃ q, q = grO L x L.length := ⟨_, rfl⟩
          rw [← hq] at hql HA ⊢
          rw [← hO] at HG hol HA
          have AD := hid (fun w9 hb hv => add1_any w.heap.size g7 O q hql w9 (by omega) b7 hb hv)
          rw [← hq] at hqv
          clear hE1 hA1 QV QL VL FM TS HLL OL hq hO hqv HF
          rw [← HA.out] at AD
          obtain ⟨GA, hGA⟩ : ∃ G, G = gwA L x := ⟨_, rfl⟩
          rw [← hGA] at AD
          have HGA := hid hGA
          clear HA hGA
          go_upto_region 19 with (go_at_call 63; (with_reducible refine (AD.out _ yr.size HG.out).mono ?_); rintro en w3 ⟨⟨r9, rfl⟩, ⟨v9, ⟨c0, c1⟩, hown, -⟩, hb3⟩)
          obtain ⟨a9, cp9, rfl, hN9⟩ := hown.ns
          have CP := hid (clip64_any a9 cp9 GA w3 hN9)
          have hN9b := hN9
          go_wp2_with (go_at_call 66; (with_reducible refine CP.out.mono ?_); rintro en w4 ⟨⟨c9, rfl, hN4⟩, rfl⟩)
          go_ret2
          exact ⟨a9, c9, by rw [HE.out, ← HGA.out]; rfl, by rw [← HGA.out]; exact hN4, yr.trans hb3⟩
  · have e1 : gwE L x = prE L := by unfold gwE; rw [if_neg hp]
    have e2 : gwA L x = [] := by unfold gwA; rw [e1, if_neg hp]
    rw [e1, e2]
    generalize prE L = E at *
    have hp1 : (E == 0) = false := beq_eq_false_iff_ne.2 hp
    have hp2 : (E != 0) = true := bne_iff_ne.2 hp
    clear h hL hT e1 e2
    go_enter Tryz.func11, Tryz.ntmps11
    go_wp2_with (go_at_call 14; (with_reducible refine (CK.out _ HN.out HT.out).mono ?_); rintro en w1 ⟨rfl, hb1⟩)
    go_ret2
    exact ⟨none, 0, rfl, Ns.nil, hb1⟩
end Go.Proofs.YthaelmnblgollaaGreatDoor
