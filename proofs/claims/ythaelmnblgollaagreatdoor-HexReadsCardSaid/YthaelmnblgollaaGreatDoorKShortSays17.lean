/- ShortSays: what the proof leans on, part 17 (RegM Tx5). -/
import Derived.Test.YthaelmnblgollaaGreatDoorKShortSays6
import Derived.Test.YthaelmnblgollaaGreatDoorKShortSays16
set_option linter.unusedVariables false
set_option linter.unusedSimpArgs false
namespace Go.Ulp
open Go Go.RowKit
section
variable {P : Program} {ops : Array Oper} {md : Region.Mode}
/-- what may be said of operation p and of the store n -/
def pairB (ops : Array Oper) (n p : Nat) : Bool :=
  match ops[p]?, ops[n]? with
  | some op, some on => op.apart ops on && op.guard.isNone && on.guard.isNone && on.dst.isNone
  | _, _ => false
def growBM (ops : Array Oper) (n p : Nat) (ds : List Tmp) (N : Nat) : Bool :=
  ((List.range n).all fun i => match dstOf ops i with | none => true | some d => ds.contains d && decide (d < N)) &&
  ((List.range n).all fun i => (List.range n).all fun j => decide (i = j) || (match dstOf ops i, dstOf ops j with | some d, some e => decide (d ≠ e) | _, _ => true)) &&
  ((List.range n).all fun i => match ops[i]? with | none => false | some o => o.after.all fun e => !Region.binds .any e || decide (e.on < i)) &&
  (decide (n < ops.size) && sinkL ops n p && Region.chainB .any ops n) &&
  Region.seqB .any ops (ops.size - n) n (firstN n ops.size) && (Region.noSelect ops && (pairB ops n p && decide (n + 2 = ops.size) && Region.waitsFor .any ops (n + 1) p) && decide (p < n))
theorem wpOp_at {Q : Exit → Act → World → Prop} {i : Nat} {o : Oper} {v : Value} {a : Act} {w : World} {K : Act → World → Prop} (hi : ops[i]? = some o) (hg : o.guard = none)
    (hv : (execOp a.eval o).run P w = .ok (.value v) w) (h : K (a.put o.dst v) w) : wpOp P ops Q i K a w := by
  unfold wpOp
  simp only [hi]
  have hw : Region.wanted o (yielded ops a.tmps) = true := by simp [Region.wanted, hg]
  simp only [hw, if_true, Oper.wp, hv, Oper.upon]
  exact .inl h
theorem wpOp_put_skip {Q : Exit → Act → World → Prop} {j : Nat} {oi oj : Oper} {v : Value} {a : Act} {w w' : World} {K K' : Act → World → Prop} (hj : ops[j]? = some oj) (hap : oi.apart ops oj = true)
    (hsj : ∀ cs b, oj.op ≠ .select cs b) (hrun : (execOp a.eval oj).run P w = .ok .skip w') (hg : oj.guard = none) (hd : oj.dst = none)
    (hK : K (a.put oi.dst v) w' → K' a w') (h : wpOp P ops Q j K (a.put oi.dst v) w) : wpOp P ops Q j K' a w := by
  obtain ⟨h1, h2, h3⟩ := Oper.apart_spec hap
  unfold wpOp at *
  simp only [hj] at *
  rw [wanted_put oj a oi.dst v h1] at h
  have hw : Region.wanted oj (yielded ops a.tmps) = true := by simp [Region.wanted, hg]
  simp only [hw, if_true] at h ⊢
  rcases h with h | ⟨hasks, hlets⟩
  · refine .inl ?_
    unfold Oper.wp at *
    rw [execOp_put oj hsj a oi.dst v h1] at h
    rw [hrun] at h ⊢
    simp only [Oper.upon, hd] at h ⊢
    exact hK h
  · exact .inr ⟨by unfold Oper.asks at *; rw [execOp_put oj hsj a oi.dst v h1] at hasks; exact hasks, hlets⟩
/-- a load that the first store leaves as it is -/
def LateM (P : Program) (ops : Array Oper) (Fs : List Fact) (C : World → Prop) (ds : List Tmp) (a0 : Act) (n p : Nat) (o s : Oper) : Prop :=
  ∀ (ρ : Operand → Value) (w : World), EnvOK ds a0 ρ → C w → (∀ j d, j < n → j ≠ p → dstOf ops j = some d → (fact Fs j).holds (ρ (.tmp d)) w) →
    ∃ v w', (execOp ρ o).run P w = .ok (.value v) w ∧ (fact Fs p).holds v w ∧ (execOp ρ s).run P w = .ok .skip w' ∧ (execOp ρ o).run P w' = .ok (.value v) w'
theorem grow_soundM {Q : Exit → Act → World → Prop} {l : List Oper} {n p : Nat} {Fs : List Fact} {Al : List Nat} {C : World → Prop} {ds : List Tmp} {a0 : Act} (hB : growBM l.toArray n p ds a0.tmps.size = true)
    (hCk : ∀ w w', C w → Below w.heap.size w w' → C w')
    (hop : ∀ i o, i < n → l[i]? = some o → StepOKF P l.toArray Fs Al C ds a0 i o)
    (hAl : Al.contains p = false)
    (hlate : ∀ o s, l[p]? = some o → l[n]? = some s → LateM P l.toArray Fs C ds a0 n p o s)
    (hend : ∀ (u : Tmp → Value) w, C w → (∀ j d, j < n → dstOf l.toArray j = some d → (fact Fs j).holds (u d) w) → (∀ i j d e, i < n → j < n → i ≠ j → dstOf l.toArray i = some d → dstOf l.toArray j = some e → Al.contains i = true → Al.contains j = true → u d ≠ u e) → wpList P l.toArray Q (l.drop n) (putAll a0 ds u) w) :
    ∀ (m : Nat) (listed : Array Bool) (a : Act) (w : World), GInvF l.toArray n Fs Al C ds a0 listed a w → cnt listed n ≤ m → wpAny P .any l.toArray Q (m + (l.drop n).length) listed a w := by
  simp only [growBM, Bool.and_eq_true, Bool.or_eq_true, decide_eq_true_eq, List.all_eq_true, List.mem_range] at hB
  obtain ⟨⟨⟨⟨⟨b1, b2⟩, b3⟩, ⟨b40, b41⟩, b42⟩, b5⟩, ⟨b6, ⟨b70, b71⟩, b72⟩, b8⟩ := hB
  have hns : n ≤ l.toArray.size := by omega
  have hlen : (l.drop n).length = l.toArray.size - n := by simp
  have done : ∀ listed a w, GInvF l.toArray n Fs Al C ds a0 listed a w → cnt listed n = 0 → wpAny P .any l.toArray Q (l.drop n).length listed a w := by
    intro listed a w inv hc
    have h1 := cnt_zero hc
    have e := firstN_of (ops := l.toArray) inv.head.size h1 inv.head.tail
    have hs : Region.seqB .any l.toArray (l.drop n).length n listed = true := by rw [hlen, e]; exact b5
    have ha := inv.away.lit
    rw [ha]
    exact wpAny_of_seq (l.drop n) n listed _ w (fun j => by simp [List.getElem?_drop]) hs (hend _ w inv.con (fun j d hj hd => inv.facts j d hj (h1 j hj) hd) (fun i j d e hi hj hne hd he ai aj => inv.apart i j d e hi hj hne (h1 i hi) (h1 j hj) hd he ai aj))
  intro m
  induction m with
  | zero => intro listed a w inv hc; rw [Nat.zero_add]; exact done listed a w inv (by omega)
  | succ m ih =>
    intro listed a w inv hc
    by_cases h0 : cnt listed n = 0
    · exact wpAny_more' (done listed a w inv h0) _
    · rcases Classical.em (∀ i, i < n → i ≠ p → listed.getD i false = true) with hallp | hsome
      · -- p alone is left: it is taken first
        have hpu : listed.getD p false = false := by
          cases hh : listed.getD p false with
          | false => rfl
          | true =>
            exfalso; apply h0
            have : ∀ k, k ≤ n → cnt listed k = 0 := by
              intro k
              induction k with
              | zero => intro _; rfl
              | succ k ihk =>
                intro hk
                have hk1 : listed.getD k false = true := by
                  by_cases e : k = p
                  · subst e; exact hh
                  · exact hallp k (by omega) e
                simp only [cnt]; rw [ihk (by omega), if_pos hk1]
            exact this n (Nat.le_refl _)
        have hps : p < l.toArray.size := by omega
        obtain ⟨op, hopa⟩ : ∃ o, l.toArray[p]? = some o := ⟨l.toArray[p]'hps, Array.getElem?_eq_getElem hps⟩
        have hop' : l[p]? = some op := by simpa using hopa
        have elst := firstL_of (ops := l.toArray) inv.head.size hallp hpu inv.head.tail
        have hready : p ∈ Region.ready .any l.toArray listed := by
          rw [mem_ready]
          refine ⟨Go.getD_in (by rw [inv.head.size]; exact hps) hpu, op, hopa, fun e he hb => ?_⟩
          have h1 := b3 p b8
          rw [hopa] at h1
          have h2 := Array.all_eq_true_iff_forall_mem.1 h1 e he
          rw [hb] at h2
          simp at h2
          exact hallp _ (by omega) (by omega)
        have hns2 : n < l.toArray.size := by omega
        obtain ⟨on, hona⟩ : ∃ o, l.toArray[n]? = some o := ⟨l.toArray[n]'hns2, Array.getElem?_eq_getElem hns2⟩
        have hon' : l[n]? = some on := by simpa using hona
        have hpair := b70
        unfold pairB at hpair
        rw [hopa, hona] at hpair
        simp only [Bool.and_eq_true, Option.isNone_iff_eq_none] at hpair
        obtain ⟨⟨⟨hap, hgp⟩, hgn⟩, hdn⟩ := hpair
        have hfacts : ∀ j d, j < n → j ≠ p → dstOf l.toArray j = some d → (fact Fs j).holds (a.eval (.tmp d)) w := fun j d hj hjp hd => inv.facts j d hj (hallp j hj hjp) hd
        obtain ⟨v, w2, hv1, hv2, hs1, hv3⟩ := hlate op on hop' hon' a.eval w ⟨fun t ht => inv.away.eval t ht, fun _ => rfl, fun _ => rfl⟩ inv.con hfacts
        have hdsti : dstOf l.toArray p = op.dst := by unfold dstOf; rw [hopa]; rfl
        have hdm : ∀ t, op.dst = some t → t ∈ ds ∧ t < a0.tmps.size := by
          intro t ht
          have := b1 p b8
          rw [hdsti, ht] at this
          simp only [Bool.and_eq_true, List.contains_iff_mem, decide_eq_true_eq] at this
          exact this
        have self : ∀ d, dstOf l.toArray p = some d → (a.put op.dst v).eval (.tmp d) = v := by
          intro d hd
          rw [hdsti] at hd
          rw [hd, eval_put_self _ _ _ (by rw [inv.away.1]; exact (hdm d hd).2)]
        have other : ∀ j d, j < n → p ≠ j → dstOf l.toArray j = some d → (a.put op.dst v).eval (.tmp d) = a.eval (.tmp d) := by
          intro j d hj e hd
          rw [eval_put_other]
          intro d' hd' heq
          subst heq
          have := b2 p b8 j hj
          rcases this with h | h
          · exact e h
          · rw [hdsti, hd', hd] at h
            simp at h
        have nalp : ∀ j, Al.contains j = true → p ≠ j := fun j hj e => by subst e; rw [hAl] at hj; cases hj
        have inv' : GInvF l.toArray n Fs Al C ds a0 (listed.setIfInBounds p true) (a.put op.dst v) w := by
          refine ⟨inv.head.set hready b8, inv.away.put _ (fun t ht => (hdm t ht).1) v, inv.con, fun j d hj hl hd => ?_, fun j d hj hl hd ha => ?_, fun j k d e hj hk hne hlj hlk hd he aj ak => ?_⟩
          · by_cases e : p = j
            · subst e; rw [self d hd]; exact hv2
            · rw [getD_set_ne false e] at hl
              rw [other j d hj e hd]
              exact inv.facts j d hj hl hd
          · have e := nalp j ha
            rw [getD_set_ne false e] at hl
            rw [other j d hj e hd]
            exact inv.lows j d hj hl hd ha
          · have e1 := nalp j aj
            have e2 := nalp k ak
            rw [getD_set_ne false e1] at hlj
            rw [getD_set_ne false e2] at hlk
            rw [other j d hj e1 hd, other k e hk e2 he]
            exact inv.apart j k d e hj hk hne hlj hlk hd he aj ak
        have hcn : cnt (listed.setIfInBounds p true) n = 0 := by
          have : ∀ k, k ≤ n → cnt (listed.setIfInBounds p true) k = 0 := by
            intro k
            induction k with
            | zero => intro _; rfl
            | succ k ihk =>
              intro hk
              have hk1 : (listed.setIfInBounds p true).getD k false = true := by
                by_cases e : p = k
                · subst e; simp [show p < listed.size by rw [inv.head.size]; exact hps]
                · exact getD_set_true (hallp k (by omega) (Ne.symm e))
              simp only [cnt]
              rw [ihk (by omega), if_pos hk1]
          exact this n (Nat.le_refl _)
        have D := done _ _ w inv' hcn
        have hl2 : (l.drop n).length = 1 + 1 := by rw [hlen]; omega
        rw [show m + 1 + (l.drop n).length = m + ((l.drop n).length + 1) by omega]
        refine wpAny_more' ?_ m
        rw [hl2] at D ⊢
        have only : ∀ (L : Array Bool) (i : Nat), HeadInv .any l.toArray n L ∨ (L = listed.setIfInBounds n true) → i ∈ Region.ready .any l.toArray listed → i ≠ p → i = n := by
          intro _ i _ hi hip
          obtain ⟨hiun, oi, hoi, hall⟩ := mem_ready.1 hi
          have his : i < l.toArray.size := (Array.getElem?_eq_some_iff.1 hoi).1
          rcases Nat.lt_trichotomy i n with h | h | h
          · have := hallp i h hip
            rw [getD_both hiun] at this; cases this
          · exact h
          · have e : i = n + 1 := by omega
            subst e
            obtain ⟨oj, hoj, e, he, hb, hon⟩ := Region.waitsFor_spec b72
            have e1 : oj = oi := Option.some.inj (hoj.symm.trans hoi)
            subst e1
            have h3 := hall e he hb
            rw [hon, hpu] at h3; cases h3
        refine ⟨fun h => (by rw [h] at hready; cases hready), fun i hi => ?_⟩
        by_cases hip : i = p
        · subst hip
          exact wpOp_at hopa hgp hv1 D
        · have hin := only listed i (.inl inv.head) hi hip
          subst hin
          have h1 := D.2 i (ready_mono hi hip)
          refine wpOp_put_skip hona hap (fun cs b => Region.noSelect_spec b6 i on cs b hona) hs1 hgn hdn ?_ h1
          intro hK
          have hr2 : p ∈ Region.ready .any l.toArray (listed.setIfInBounds i true) := ready_mono hready (Ne.symm hip)
          refine ⟨fun h => (by rw [h] at hr2; cases hr2), fun k hk => ?_⟩
          have hkp : k = p := by
            rcases Classical.em (k = p) with h | h
            · exact h
            · exfalso
              obtain ⟨hkun, ok, hok, hall⟩ := mem_ready.1 hk
              have hks : k < l.toArray.size := (Array.getElem?_eq_some_iff.1 hok).1
              have hki : k ≠ i := by
                intro e; subst e
                rw [show (listed.setIfInBounds k true).getD k true = true by simp [show k < listed.size by rw [inv.head.size]; exact hks]] at hkun
                cases hkun
              rw [getD_set_ne true (Ne.symm hki)] at hkun
              rcases Nat.lt_trichotomy k i with h4 | h4 | h4
              · have := hallp k h4 h
                rw [getD_both hkun] at this; cases this
              · exact hki h4
              · have e : k = i + 1 := by omega
                subst e
                obtain ⟨oj, hoj, e, he, hb, hon⟩ := Region.waitsFor_spec b72
                have e1 : oj = ok := Option.some.inj (hoj.symm.trans hok)
                subst e1
                have h3 := hall e he hb
                rw [hon, getD_set_ne false hip, hpu] at h3; cases h3
          subst hkp
          refine wpOp_at hopa hgp hv3 ?_
          rw [Array.setIfInBounds_comm _ _ hip]
          exact hK
      have hother : ∃ i, i < n ∧ i ≠ p ∧ listed.getD i false = false := by
        rcases Classical.em (∃ i, i < n ∧ i ≠ p ∧ listed.getD i false = false) with h | h
        · exact h
        · exfalso; apply hsome
          intro i hi hip
          cases hh : listed.getD i false with
          | true => rfl
          | false => exact absurd ⟨i, hi, hip, hh⟩ h
      -- some other operation of the first n is not listed; the least of all is ready
      have hex : ∃ i, i < n ∧ listed.getD i false = false := by
        rcases Classical.em (∃ i, i < n ∧ listed.getD i false = false) with h | h
        · exact h
        · exfalso; apply h0
          have hall : ∀ i, i < n → listed.getD i false = true := fun i hi => by
            cases hh : listed.getD i false with
            | true => rfl
            | false => exact absurd ⟨i, hi, hh⟩ h
          have : ∀ k, k ≤ n → cnt listed k = 0 := by
            intro k
            induction k with
            | zero => intro _; rfl
            | succ k ihk => intro hk; simp only [cnt]; rw [ihk (by omega), if_pos (hall k (by omega))]
          exact this n (Nat.le_refl _)
      have hmin : ∃ i, i < n ∧ listed.getD i false = false ∧ ∀ j, j < i → listed.getD j false = true := by
        obtain ⟨i, hi, hl⟩ := hex
        induction i using Nat.strongRecOn with
        | _ i ihi =>
          rcases Classical.em (∃ j, j < i ∧ listed.getD j false = false) with ⟨j, hj, hjl⟩ | h
          · exact ihi j hj (by omega) hjl
          · exact ⟨i, hi, hl, fun j hj => by
              cases hh : listed.getD j false with
              | true => rfl
              | false => exact absurd ⟨j, hj, hh⟩ h⟩
      obtain ⟨i0, hi0, hl0, hbelow⟩ := hmin
      have hready0 : i0 ∈ Region.ready .any l.toArray listed := by
        rw [mem_ready]
        refine ⟨Go.getD_in (by rw [inv.head.size]; omega) hl0, ?_⟩
        have := b3 i0 hi0
        cases ho : l.toArray[i0]? with
        | none => rw [ho] at this; cases this
        | some o =>
          rw [ho] at this
          refine ⟨o, rfl, fun e he hb => ?_⟩
          have h2 := Array.all_eq_true_iff_forall_mem.1 this e he
          rw [hb] at h2
          simp at h2
          exact hbelow _ h2
      have hun : listed.getD i0 true = false := (mem_ready.1 hready0).1
      rw [show m + 1 + (l.drop n).length = (m + (l.drop n).length) + 1 by omega]
      refine ⟨fun h => (by rw [h] at hready0; cases hready0), fun i hi => ?_⟩
      obtain ⟨hiun, oi, hoi, hall⟩ := mem_ready.1 hi
      have his : i < l.toArray.size := (Array.getElem?_eq_some_iff.1 hoi).1
      have hin : i < n := by
        rcases Nat.lt_or_ge i n with h | h
        · exact h
        · obtain ⟨i1, hi1, hip1, hl1⟩ := hother
          exact absurd hi (tail_waitsL b41 b42 b40 inv.head _ i1 rfl hi1 hip1 (Go.getD_in (by rw [inv.head.size]; omega) hl1) i h)
      have hoil : l[i]? = some oi := by simpa using hoi
      have hst := fun R hR => hop i oi hin hoil a.eval w R ⟨fun t ht => inv.away.eval t ht, fun _ => rfl, fun _ => rfl⟩ inv.con (fun j d hw hd => by
        obtain ⟨oj, hoj, e, he, hb, hon⟩ := waitsB_spec hw
        have e1 : oj = oi := Option.some.inj (hoj.symm.trans hoi)
        subst e1
        have h3 := hall e he hb
        rw [hon] at h3
        have hjn : j < n := by
          have := b3 i hin
          rw [hoi] at this
          have h2 := Array.all_eq_true_iff_forall_mem.1 this e he
          rw [hb] at h2
          simp at h2
          omega
        exact inv.facts j d hjn h3 hd) hR
      have hdsti : dstOf l.toArray i = oi.dst := by unfold dstOf; rw [hoi]; rfl
      have hdm : ∀ t, oi.dst = some t → t ∈ ds ∧ t < a0.tmps.size := by
        intro t ht
        have := b1 i hin
        rw [hdsti, ht] at this
        simp only [Bool.and_eq_true, List.contains_iff_mem, decide_eq_true_eq] at this
        exact this
      have next : ∀ v w', Below w.heap.size w w' → (fact Fs i).holds v w' → (Al.contains i = true → Fresh w v w') → GInvF l.toArray n Fs Al C ds a0 (listed.setIfInBounds i true) (a.put oi.dst v) w' := by
        intro v w' hb hv hfr
        have self : ∀ d, dstOf l.toArray i = some d → (a.put oi.dst v).eval (.tmp d) = v := by
          intro d hd
          rw [hdsti] at hd
          rw [hd, eval_put_self _ _ _ (by rw [inv.away.1]; exact (hdm d hd).2)]
        have other : ∀ j d, j < n → i ≠ j → dstOf l.toArray j = some d → (a.put oi.dst v).eval (.tmp d) = a.eval (.tmp d) := by
          intro j d hj e hd
          rw [eval_put_other]
          intro d' hd' heq
          subst heq
          have := b2 i hin j hj
          rcases this with h | h
          · exact e h
          · rw [hdsti, hd', hd] at h
            simp at h
        refine ⟨inv.head.set hi hin, inv.away.put _ (fun t ht => (hdm t ht).1) v, hCk _ _ inv.con hb, fun j d hj hl hd => ?_, fun j d hj hl hd ha => ?_, fun j k d e hj hk hne hlj hlk hd he aj ak => ?_⟩
        · by_cases e : i = j
          · subst e
            rw [self d hd]; exact hv
          · rw [getD_set_ne false e] at hl
            rw [other j d hj e hd]
            exact (fact Fs j).keep _ _ _ (inv.facts j d hj hl hd) hb
        · by_cases e : i = j
          · subst e
            rw [self d hd]
            obtain ⟨g, h1, h2, h3⟩ := hfr ha
            exact ⟨g, h1, h3⟩
          · rw [getD_set_ne false e] at hl
            rw [other j d hj e hd]
            obtain ⟨g, h1, h2⟩ := inv.lows j d hj hl hd ha
            exact ⟨g, h1, Nat.lt_of_lt_of_le h2 hb.size⟩
        · by_cases e1 : i = j
          · subst e1
            have e2 : i ≠ k := hne
            rw [getD_set_ne false e2] at hlk
            rw [self d hd, other k e hk e2 he]
            obtain ⟨g, h1, h2, h3⟩ := hfr aj
            obtain ⟨g', h1', h2'⟩ := inv.lows k e hk hlk he ak
            rw [h1, h1']
            intro hc
            simp at hc <;> omega
          · rw [getD_set_ne false e1] at hlj
            by_cases e2 : i = k
            · subst e2
              rw [self e he, other j d hj e1 hd]
              obtain ⟨g, h1, h2, h3⟩ := hfr ak
              obtain ⟨g', h1', h2'⟩ := inv.lows j d hj hlj hd aj
              rw [h1, h1']
              intro hc
              simp at hc <;> omega
            · rw [getD_set_ne false e2] at hlk
              rw [other j d hj e1 hd, other k e hk e2 he]
              exact inv.apart j k d e hj hk hne hlj hlk hd he aj ak
      have hcn : cnt (listed.setIfInBounds i true) n ≤ m := by
        have := cnt_set hin (by rw [inv.head.size]; exact his) (getD_both hiun)
        omega
      unfold wpOp
      rw [hoi]
      simp only
      rw [guardOf_eq]
      cases hg : guardOf l.toArray oi a.eval with
      | true =>
        simp only [if_true]
        left
        refine Oper.wp_mono ?_ (OpRun.wp ((hst (fun v w' => Below w.heap.size w w' ∧ (fact Fs i).holds v w' ∧ (Al.contains i = true → Fresh w v w')) (fun v w' hb hv hfr => ⟨hb, hv, hfr⟩)).1 hg))
        rintro a' w' ⟨v, rfl, hb, hv, hfr⟩
        exact ih _ _ _ (next v w' hb hv hfr) hcn
      | false =>
        simp only [Bool.false_eq_true, if_false]
        exact ih _ _ _ (next undef w (Below.refl _ _) ((hst (fun v w' => True) (fun _ _ _ _ _ => trivial)).2 hg).1 ((hst (fun v w' => True) (fun _ _ _ _ _ => trivial)).2 hg).2) hcn
theorem wp_region_growM {id : Nat} {l : List Oper} {Q : Exit → Act → World → Prop} {a0 : Act} {w0 : World} (n p : Nat) (ds : List Tmp) (Fs : List Fact) (Al : List Nat)
    (hm : P.follows .mixedOrders = true) (hB : growBM l.toArray n p ds a0.tmps.size = true)
    (hAl : Al.contains p = false)
    (hop : AllOps (StepOKF P l.toArray Fs Al (fun w => Below w0.heap.size w0 w) ds a0) 0 (l.take n))
    (hlate : ∀ o s, l[p]? = some o → l[n]? = some s → LateM P l.toArray Fs (fun w => Below w0.heap.size w0 w) ds a0 n p o s)
    (hend : ∀ (u : Tmp → Value) w, Below w0.heap.size w0 w → (∀ j d, j < n → dstOf l.toArray j = some d → (fact Fs j).holds (u d) w) → (∀ i j d e, i < n → j < n → i ≠ j → dstOf l.toArray i = some d → dstOf l.toArray j = some e → Al.contains i = true → Al.contains j = true → u d ≠ u e) → wpList P l.toArray Q (l.drop n) (putAll a0 ds u) w) :
    (Code.region id l.toArray true).wp P Q a0 w0 := by
  have hns : n ≤ l.length := by
    simp only [growBM, Bool.and_eq_true, decide_eq_true_eq] at hB
    obtain ⟨⟨⟨_, ⟨b40, b41⟩, b42⟩, b5⟩, ⟨b6, b7⟩, b8⟩ := hB
    have : l.toArray.size = l.length := by simp
    omega
  refine wp_region_any hm ?_
  have H := grow_soundM (P := P) (Q := Q) (C := fun w => Below w0.heap.size w0 w) hB (fun w w' h k => h.trans (k.mono h.size)) (fun i o hi ho => by
    have := hop.get (l.take n) 0 i o (by rw [List.getElem?_take, if_pos hi]; exact ho)
    rwa [Nat.zero_add] at this) hAl hlate hend n (Array.replicate l.toArray.size false) a0 w0.drew
    ⟨⟨by simp, fun j oj _ hl => (by rw [getD_replicate_false] at hl; cases hl), fun t _ ht => Go.getD_in (by simpa using ht) (getD_replicate_false _ _)⟩, ⟨rfl, rfl, fun _ _ => rfl⟩, (Below.refl _ _).drew, fun j d _ hl => (by rw [getD_replicate_false] at hl; cases hl), fun j d _ hl => (by rw [getD_replicate_false] at hl; cases hl), fun j k d e _ _ _ hl => (by rw [getD_replicate_false] at hl; cases hl)⟩
    (by
      have : ∀ k, cnt (Array.replicate l.toArray.size false) k ≤ k := by
        intro k
        induction k with
        | zero => exact Nat.le_refl _
        | succ k ih => simp only [cnt]; split <;> omega
      exact this n)
  have e : n + (l.drop n).length = l.toArray.size := by simp; omega
  rw [e] at H
  exact H
end
end Go.Ulp

set_option linter.unusedVariables false
set_option linter.unusedSimpArgs false
namespace Go.Ulp
open Go.RowKit
def tenZ (n : Nat) : Int := ((10 ^ n : Nat) : Int)
theorem zl_len_ten (n : Nat) : (zl (tenZ n)).length ≤ n + 1 := by
  unfold zl
  refine (digs_len_le 10000 (by omega) _ _).2 ?_
  unfold tenZ
  rw [Int.natAbs_natCast]
  exact Nat.lt_of_lt_of_le (Nat.pow_lt_pow_right (by omega) (Nat.lt_succ_self n)) (Nat.pow_le_pow_left (by omega) _)
theorem tenZ_add (a b : Nat) : tenZ a * tenZ b = tenZ (a + b) := by unfold tenZ; rw [← Int.natCast_mul, Nat.pow_add]
/-- a value's size, as a ratio -/
def dA (D : Dy) : Nat := D.1.natAbs * 2 ^ D.2.toNat
def dB (D : Dy) : Nat := 2 ^ (-D.2).toNat
theorem dB_pos (D : Dy) : 0 < dB D := Nat.two_pow_pos _
theorem nrm_ratio {X : Int} {n : Nat} {D : Dy} (h : nrm X (-(n : Int)) = D) : X.natAbs * dB D = dA D * 2 ^ n := by
  obtain ⟨k, h1, h2⟩ := nrm_rep X (-(n : Int))
  rw [h] at h1 h2
  by_cases hX : X = 0
  · have : D = (0, 0) := by rw [← h, hX]; rfl
    subst this
    rw [hX]; simp [dA]
  · have h2 := h2 hX
    have h3 : X.natAbs = D.1.natAbs * 2 ^ k := by rw [h1]; exact natAbs_mul_pw _ _
    unfold dA dB
    rw [h3, Nat.mul_assoc, Nat.mul_assoc, ← Nat.pow_add, ← Nat.pow_add]
    congr 2
    omega
/-- what TenTimes hands back -/
def RetTT (t : TypeId) (w : World) (D : Dy) (p : Int) (e : Ending) (w' : World) : Prop :=
  ∃ (a b : Nat) (v : Value), e = .returned v ∧ ZD2 t w' (a : Int) (b : Int) v ∧ 0 < b ∧ a * (dB D * tnN (-p)) = dA D * tnN p * b ∧ (zl (a : Int)).length ≤ 300000 ∧ (zl (b : Int)).length ≤ 300000 ∧ Below w.heap.size w w'
end Go.Ulp
namespace Go.Proofs.YthaelmnblgollaaGreatDoor
open Go.RowKit Go.Ulp
set_option linter.unusedVariables false
set_option linter.unusedSimpArgs false
set_option maxHeartbeats 1000000
set_option maxRecDepth 100000
theorem zten_aux (f : Nat) : ∀ (n : Nat) (w : World), n ≤ f → n ≤ 10000000 → Calls Tryz.prog 113 #[.int .i64 (n : Int)] w fun e w' => RetZ 3 w (tenZ n) e w' := by
  induction f with
  | zero =>
    intro n w hn _
    obtain rfl : n = 0 := by omega
    have O1 := hid (show ∀ w, Calls Tryz.prog 70 #[.int .i64 1] w fun e w' => RetZ 3 w (tenZ 0) e w' from fun w => zN_any 1 (by omega) w)
    have zR0 : ZL 39 (w.alloc (.cells #[.bool false, .slice none 0 0] 39)) w.heap.size false (.slice none 0 0) := ZL.made rfl
    have yb : Below w.heap.size w (w.alloc (.cells #[.bool false, .slice none 0 0] 39)) := below_alloc _ _
    go_enter Tryz.func113, Tryz.ntmps113
    go_wp2_with fail
    go_loopw [3, 7] (fun s3 s7 wr => s3 = .int .i64 1 ∧ s7 = .int .i64 0 ∧ wr = w.alloc (.cells #[.bool false, .slice none 0 0] 39)) (fun _ _ _ => 0)
    case atStart => exact ⟨rfl, rfl, rfl⟩
    case round =>
      obtain ⟨rfl, rfl, rfl⟩ := hrel
      go_wp2_with fail
      refine (O1.out _).mono ?_
      rintro e w1 ⟨ao, cap, rfl, hN, hb⟩
      have zR := zR0.below hb
      have k0 := zR.1
      have k1 := zR.2.1
      have f0 := zR.2.2.1
      have f1 := zR.2.2.2.1
      have hs2 := zR.2.2.2.2
      go_wp2_with fail
      refine bodyPost_ret (by simp [results, Tryz.results113, go_sem, k0, k1]; try rfl) rfl ?_
      exact ⟨_, _, rfl, (hN.setCell hs2 (by decide) _ _).setCell (hs2.setCell _ _) (by decide) _ _, ((below_trans yb hb).setCell (by first | omega | (simp; done) | (simp; omega)) _).setCell (by first | omega | (simp; done) | (simp; omega)) _⟩
  | succ f ih =>
    intro n w hn hs
    by_cases h0 : n = 0
    · subst h0; exact ih 0 w (by omega) (by omega)
    have IH := hid ih
    clear ih
    have zR0 : ZL 39 (w.alloc (.cells #[.bool false, .slice none 0 0] 39)) w.heap.size false (.slice none 0 0) := ZL.made rfl
    have yb : Below w.heap.size w (w.alloc (.cells #[.bool false, .slice none 0 0] 39)) := below_alloc _ _
    by_cases h8 : n < 8
    · have ON := hid (show ∀ (P : Nat) w, P = 10 ^ n → Calls Tryz.prog 70 #[.int .i64 (P : Int)] w fun e w' => RetZ 3 w (tenZ n) e w' from fun P w h => by
        have h9 : (10 : Nat) ^ n ≤ 10 ^ 8 := Nat.pow_le_pow_right (by omega) (by omega)
        have h7 : (10 : Nat) ^ 8 = 100000000 := by decide
        subst h
        exact zN_any (10 ^ n) (by omega) w)
      go_enter Tryz.func113, Tryz.ntmps113
      go_wp2_with fail
      go_loopw [3, 7] (fun s3 s7 wr => ∃ i P : Nat, s3 = .int .i64 (P : Int) ∧ s7 = .int .i64 (i : Int) ∧ i ≤ n ∧ P = 10 ^ i ∧ wr = w.alloc (.cells #[.bool false, .slice none 0 0] 39)) (fun _ s7 _ => n - (intOf s7).toNat)
      case atStart => exact ⟨0, 1, rfl, rfl, by omega, rfl, rfl⟩
      case round =>
        obtain ⟨i, P, rfl, rfl, hi, hP, rfl⟩ := hrel
        by_cases hin : i < n
        · have hPb : P ≤ 100000000 := by
            have h9 : (10 : Nat) ^ i ≤ 10 ^ 8 := Nat.pow_le_pow_right (by omega) (by omega)
            have h7 : (10 : Nat) ^ 8 = 100000000 := by decide
            omega
          have HP := hid (show P * 10 = 10 ^ (i + 1) by rw [Nat.pow_succ, hP])
          clear hP
          go_wp2_with fail
          go_roundw
          case rel => exact ⟨i + 1, P * 10, by go_num, by go_num, by omega, HP.out, by first | rfl | trivial⟩
          case measure => simp [intOf]; omega
        · have hi2 : i = n := by omega
          subst hi2
          have ONP := hid (fun w => ON.out P w hP)
          clear hP ON
          go_wp2_with fail
          refine (ONP.out _).mono ?_
          rintro e w1 ⟨ao, cap, rfl, hN, hb⟩
          have zR := zR0.below hb
          have k0 := zR.1
          have k1 := zR.2.1
          have f0 := zR.2.2.1
          have f1 := zR.2.2.2.1
          have hs2 := zR.2.2.2.2
          go_wp2_with fail
          refine bodyPost_ret (by simp [results, Tryz.results113, go_sem, k0, k1]; try rfl) rfl ?_
          exact ⟨_, _, rfl, (hN.setCell hs2 (by decide) _ _).setCell (hs2.setCell _ _) (by decide) _ _, ((below_trans yb hb).setCell (by first | omega | (simp; done) | (simp; omega)) _).setCell (by first | omega | (simp; done) | (simp; omega)) _⟩
    · have h1 : ¬ (n : Int) < 8 := by omega
      obtain ⟨q, hq⟩ : ∃ q, q = n / 2 := ⟨_, rfl⟩
      obtain ⟨r, hr⟩ : ∃ r, r = n - q := ⟨_, rfl⟩
      have e1 : (n : Int) / 2 = (q : Int) := by omega
      have e2 : (n : Int) - (q : Int) = (r : Int) := by omega
      have hq1 : q ≤ f := by omega
      have hr1 : r ≤ f := by omega
      have hq2 : q ≤ 10000000 := by omega
      have hr2 : r ≤ 10000000 := by omega
      have HS := hid (show tenZ q * tenZ r = tenZ n by rw [tenZ_add]; congr 1; omega)
      clear hq hr
      go_enter Tryz.func113, Tryz.ntmps113
      go_wp2_with fail
      refine (IH.out q _ hq1 hq2).mono ?_
      rintro e w1 ⟨ao, cap, rfl, hN, hb⟩
      go_wp2_with fail
      refine (IH.out r _ hr1 hr2).mono ?_
      rintro e w2 ⟨ao2, cap2, rfl, hN2, hb2⟩
      go_wp2_with fail
      refine (zmul_any _ _ _ _ _ _ _ (hN.below hb2) hN2 (Nat.le_trans (zl_len_ten q) (by omega)) (Nat.le_trans (zl_len_ten r) (by omega))).mono ?_
      rw [HS.out]
      rintro e w3 ⟨ao3, cap3, rfl, hN3, hb3⟩
      have zR := ((zR0.below hb).below hb2).below hb3
      have yb := below_trans (below_trans yb hb) hb2
      have k0 := zR.1
      have k1 := zR.2.1
      have f0 := zR.2.2.1
      have f1 := zR.2.2.2.1
      have hs2 := zR.2.2.2.2
      go_wp2_with fail
      refine bodyPost_ret (by simp [results, Tryz.results113, go_sem, k0, k1]; try rfl) rfl ?_
      exact ⟨_, _, rfl, (hN3.setCell hs2 (by decide) _ _).setCell (hs2.setCell _ _) (by decide) _ _, ((below_trans yb hb3).setCell (by first | omega | (simp; done) | (simp; omega)) _).setCell (by first | omega | (simp; done) | (simp; omega)) _⟩
theorem zTenD (n : Nat) (w : World) (hn : n ≤ 10000000) : Calls Tryz.prog 113 #[.int .i64 (n : Int)] w (RetZD 3 w (tenZ n)) := (zten_aux n n w (Nat.le_refl _) hn).mono fun _ _ h => h.zd
theorem tt_start (tq tz ti : TypeId) (X : Int) (n : Nat) (ao : Option Addr) (cap : Nat) (w : World) (h0 : Nz ti w ao cap (zl X)) :
    Below w.heap.size w (((w.alloc (.cells #[.bool (zneg X), .slice ao (zl X).length cap, .int .i64 (n : Int)] tq)).alloc (.cells #[.bool false, .slice none 0 0] tz)).alloc (.cells #[.bool false, .slice none 0 0] tz)) ∧ ZV tq ti (((w.alloc (.cells #[.bool (zneg X), .slice ao (zl X).length cap, .int .i64 (n : Int)] tq)).alloc (.cells #[.bool false, .slice none 0 0] tz)).alloc (.cells #[.bool false, .slice none 0 0] tz)) w.heap.size X ∧ (((w.alloc (.cells #[.bool (zneg X), .slice ao (zl X).length cap, .int .i64 (n : Int)] tq)).alloc (.cells #[.bool false, .slice none 0 0] tz)).alloc (.cells #[.bool false, .slice none 0 0] tz)).cell? ⟨w.heap.size, 2, none⟩ = some (.int .i64 (n : Int)) ∧ ZL tz (((w.alloc (.cells #[.bool (zneg X), .slice ao (zl X).length cap, .int .i64 (n : Int)] tq)).alloc (.cells #[.bool false, .slice none 0 0] tz)).alloc (.cells #[.bool false, .slice none 0 0] tz)) (w.heap.size + 1) false (.slice none 0 0) ∧ ZL tz (((w.alloc (.cells #[.bool (zneg X), .slice ao (zl X).length cap, .int .i64 (n : Int)] tq)).alloc (.cells #[.bool false, .slice none 0 0] tz)).alloc (.cells #[.bool false, .slice none 0 0] tz)) (w.heap.size + 1 + 1) false (.slice none 0 0) := by
  have q0 : QL tq (w.alloc (.cells #[.bool (zneg X), .slice ao (zl X).length cap, .int .i64 (n : Int)] tq)) w.heap.size (zneg X) (.slice ao (zl X).length cap) (n : Int) := QL.made rfl
  have q2 := (q0.alloc (.cells #[.bool false, .slice none 0 0] tz)).alloc (.cells #[.bool false, .slice none 0 0] tz)
  exact ⟨by (repeat' (first | (with_reducible assumption) | (with_reducible exact Below.refl _ _) | (with_reducible refine below_al ?_ _) | (with_reducible refine below_drewN ?_ _) | (with_reducible refine Below.drew ?_) | (with_reducible refine Below.alloc ?_ ?_ _) | (with_reducible refine Below.setCell ?_ ?_ _) | (refine below_trans ?_ (by assumption)) | go_size)), ⟨ao, cap, q2.1, h0.below (by (repeat' (first | (with_reducible assumption) | (with_reducible exact Below.refl _ _) | (with_reducible refine below_al ?_ _) | (with_reducible refine below_drewN ?_ _) | (with_reducible refine Below.drew ?_) | (with_reducible refine Below.alloc ?_ ?_ _) | (with_reducible refine Below.setCell ?_ ?_ _) | (refine below_trans ?_ (by assumption)) | go_size)))⟩, q2.2.1, (ZL.made (by simp)).alloc _, ZL.made (by simp)⟩
theorem tenTimes_pos (X : Int) (n : Nat) (ao : Option Addr) (cap p : Nat) (w : World) (h0 : Nz 3 w ao cap (zl X)) (hX : (zl X).length ≤ 100000) (hn : n ≤ 100000) (hp : p ≤ 10000) :
    Calls Tryz.prog 146 #[.agg #[.bool (zneg X), .slice ao (zl X).length cap, .int .i64 (n : Int)], .int .i64 (p : Int)] w (RetZD2 3 w ((X.natAbs : Int) * tenZ p) (pw n)) := by
  have lt := Nat.le_trans (zl_len_ten p) (show p + 1 ≤ 100000000 by omega)
  have lX : (zl (X.natAbs : Int)).length ≤ 100000000 := by rw [zl_nat]; exact Nat.le_trans hX (by omega)
  have H0 := hid h0
  clear h0
  go_enter Tryz.func146, Tryz.ntmps146
  go_upto_region 1 with fail
  refine wp_worldZ (fun WW => Below w.heap.size w WW ∧ ZV 41 3 WW w.heap.size X ∧ WW.cell? ⟨w.heap.size, 2, none⟩ = some (.int .i64 (n : Int)) ∧ ZL 39 WW (w.heap.size + 1) false (.slice none 0 0) ∧ ZL 39 WW (w.heap.size + 1 + 1) false (.slice none 0 0)) (tt_start 41 39 3 X n ao cap w H0.out) ?_
  intro W1 ⟨yb1, zQ, c2, z4, z5⟩
  obtain ⟨g5, hg5⟩ : ∃ g, g = w.heap.size + 1 + 1 := ⟨_, rfl⟩
  obtain ⟨g4, hg4⟩ : ∃ g, g = w.heap.size + 1 := ⟨_, rfl⟩
  obtain ⟨g2, hg2⟩ : ∃ g, g = w.heap.size := ⟨_, rfl⟩
  have b4 : w.heap.size ≤ g4 := by omega
  have b5 : w.heap.size ≤ g5 := by omega
  have n45 : g4 ≠ g5 := by omega
  rw [← hg5] at z5 ⊢
  rw [← hg4] at z4 ⊢
  rw [← hg2] at zQ c2
  rw [← hg2]
  clear hg2 hg4 hg5
  refine wp_region_growF 8 [8, 9, 10, 11, 12, 13, 6, 7] [Fact.is (.pointer (some ⟨g2, 0, none⟩)), Fact.z 3 (X), Fact.z 3 (((X).natAbs : Int)), Fact.is (.pointer (some ⟨g2, 2, none⟩)), Fact.is (.int .i64 (n : Int)), Fact.z 3 (pw n), Fact.z0 W1.heap.size 39, Fact.z0 W1.heap.size 39] [6, 7] (by kernel_rfl) (by kernel_rfl) ⟨?o0, ?o1, ?o2, ?o3, ?o4, ?o5, ?o6, ?o7, trivial⟩ ?after
  case o0 => (refine StepOKF.plain rfl ?_; intro ρ w1 R hρ hb hp hR; have e2 : ρ (.tmp 2) = .pointer (some ⟨g2, 0, none⟩) := hρ.tmp 2 rfl; replace hR := fun v w2 h1 h2 => hR v w2 h1 h2 (fun h => absurd h (by decide)); have hcon := hρ.con; have hfn := hρ.fn; clear hρ hp; unfold OpRun; go_simp; exact hR _ _ (Below.refl _ _) rfl)
  case o1 => (refine StepOKF.plain rfl ?_; intro ρ w1 R hρ hb hp hR; have e8 : ρ (.tmp 8) = _ := hp 0 8 rfl rfl; obtain ⟨ya9, yc9, yj9, yn9⟩ := ZV.below zQ hb; obtain ⟨j90, j91, -⟩ := yj9; replace hR := fun v w2 h1 h2 => hR v w2 h1 h2 (fun h => absurd h (by decide)); have hcon := hρ.con; have hfn := hρ.fn; clear hρ hp; unfold OpRun; go_simp; exact hR _ _ (Below.refl _ _) ⟨ya9, yc9, rfl, yn9⟩)
  case o2 => (refine StepOKF.plain rfl ?_; intro ρ w1 R hρ hb hp hR; have f9 := hp 1 9 rfl rfl; replace hR := fun v w2 h1 h2 => hR v w2 h1 h2 (fun h => absurd h (by decide)); have hcon := hρ.con; have hfn := hρ.fn; clear hρ hp; unfold OpRun; go_simp; (refine (zabsD _ _ _ f9).mono ?_; rintro e wn ⟨v9, rfl, hz9, hbn⟩; exact ⟨_, rfl, hR _ _ hbn hz9⟩))
  case o3 => (refine StepOKF.plain rfl ?_; intro ρ w1 R hρ hb hp hR; have e2 : ρ (.tmp 2) = .pointer (some ⟨g2, 0, none⟩) := hρ.tmp 2 rfl; replace hR := fun v w2 h1 h2 => hR v w2 h1 h2 (fun h => absurd h (by decide)); have hcon := hρ.con; have hfn := hρ.fn; clear hρ hp; unfold OpRun; go_simp; exact hR _ _ (Below.refl _ _) rfl)
  case o4 => (refine StepOKF.plain rfl ?_; intro ρ w1 R hρ hb hp hR; have e11 : ρ (.tmp 11) = _ := hp 3 11 rfl rfl; have j12 := (hb.cell (World.block_lt_of_cell? _ _ c2)).trans c2; replace hR := fun v w2 h1 h2 => hR v w2 h1 h2 (fun h => absurd h (by decide)); have hcon := hρ.con; have hfn := hρ.fn; clear hρ hp; unfold OpRun; go_simp; exact hR _ _ (Below.refl _ _) rfl)
  case o5 => (refine StepOKF.plain rfl ?_; intro ρ w1 R hρ hb hp hR; have e12 : ρ (.tmp 12) = _ := hp 4 12 rfl rfl; replace hR := fun v w2 h1 h2 => hR v w2 h1 h2 (fun h => absurd h (by decide)); have hcon := hρ.con; have hfn := hρ.fn; clear hρ hp; unfold OpRun; go_simp; (refine (zpowD n _ (by first | assumption | omega)).mono ?_; rintro e wn ⟨v9, rfl, hz9, hbn⟩; exact ⟨_, rfl, hR _ _ hbn hz9⟩))
  case o6 => (refine StepOKF.plain rfl ?_; intro ρ w1 R hρ hb hp hR; have hcon := hρ.con; have hfn := hρ.fn; clear hρ hp; unfold OpRun; go_simp; exact hR _ _ (below_alloc _ _) ⟨_, rfl, hb.size, ZL.made rfl⟩ (fun _ => ⟨_, rfl, Nat.le_refl _, by simp⟩))
  case o7 => (refine StepOKF.plain rfl ?_; intro ρ w1 R hρ hb hp hR; have hcon := hρ.con; have hfn := hρ.fn; clear hρ hp; unfold OpRun; go_simp; exact hR _ _ (below_alloc _ _) ⟨_, rfl, hb.size, ZL.made rfl⟩ (fun _ => ⟨_, rfl, Nat.le_refl _, by simp⟩))
  case after =>
    intro u wn hb hf hd
    have f10 := hf 2 10 (by omega) rfl
    have f13 := hf 5 13 (by omega) rfl
    have f6 := hf 6 6 (by omega) rfl
    have f7 := hf 7 7 (by omega) rfl
    have d6_7 : u 6 ≠ u 7 := hd 6 7 6 7 (by omega) (by omega) (by omega) rfl rfl rfl rfl
    clear hf hd
    simp only [putAll, Act.put, List.setIfInBounds_toArray, List.set_cons_zero, List.set_cons_succ, List.drop_succ_cons, List.drop_zero, List.drop_nil]
    obtain ⟨xa1, xc1, xe1, xn1⟩ := f10
    obtain ⟨xa2, xc2, xe2, xn2⟩ := f13
    obtain ⟨gv6, eg1, hg1, zz1⟩ := f6
    obtain ⟨gv7, eg2, hg2, zz2⟩ := f7
    have gne : gv6 ≠ gv7 := by intro h; apply d6_7; rw [eg1, eg2, h]
    rw [xe1, xe2, eg1, eg2]
    clear xe1 xe2 eg1 eg2 d6_7
    have zst := zv_store2 (by decide) hb hg1 hg2 gne zz1 zz2 xn1 xn2
    obtain ⟨k0, k1, kf0, kf1, -⟩ := id zz1
    obtain ⟨l0, l1, lf0, lf1, -⟩ := id zz2
    go_upto_region 2 with fail
    clear k0 k1 kf0 kf1 l0 l1 lf0 lf1 zz1 zz2 xn1 xn2 hb
    refine wp_worldZ (fun WW => Below _ _ WW ∧ ZV _ _ WW _ _ ∧ ZV _ _ WW _ _) zst ?_
    clear zst
    intro W2 ⟨y12, zv6, zv7⟩
    have y2 := below_trans yb1 y12
    have z4' := z4.below y12
    have z5' := z5.below y12
    have l4 := z4.lt
    have l5 := z5.lt
    have n47 : g4 ≠ gv7 := by omega
    have n46 : g4 ≠ gv6 := by omega
    have n57 : g5 ≠ gv7 := by omega
    have n56 : g5 ≠ gv6 := by omega
    clear z4 z5 zQ c2 yb1 y12 hg1 hg2 l4 l5
    go_upto_region 3 with fail
    refine wp_region_growM 5 4 [16, 17, 18, 19, 20] [Fact.z 3 ((X.natAbs : Int)), Fact.is (.int .i64 (p : Int)), Fact.z 3 (tenZ p), Fact.z 3 (((X.natAbs : Int)) * (tenZ p)), Fact.z 3 (pw n)] [] (by kernel_rfl) (by kernel_rfl) rfl ⟨?o0, ?o1, ?o2, ?o3, ?o4, trivial⟩ ?late ?after
    case o0 => (refine StepOKF.plain rfl ?_; intro ρ w1 R hρ hb hp hR; have e6 : ρ (.tmp 6) = .pointer (some ⟨gv6, 0, none⟩) := hρ.tmp 6 rfl; obtain ⟨ya9, yc9, yj9, yn9⟩ := ZV.below zv6 hb; obtain ⟨j90, j91, -⟩ := yj9; replace hR := fun v w2 h1 h2 => hR v w2 h1 h2 (fun h => absurd h (by decide)); have hcon := hρ.con; have hfn := hρ.fn; clear hρ hp; unfold OpRun; go_simp; exact hR _ _ (Below.refl _ _) ⟨ya9, yc9, rfl, yn9⟩)
    case o1 => (refine StepOKF.plain rfl ?_; intro ρ w1 R hρ hb hp hR; have e1 : ρ (.tmp 1) = .int .i64 (p : Int) := hρ.tmp 1 rfl; replace hR := fun v w2 h1 h2 => hR v w2 h1 h2 (fun h => absurd h (by decide)); have hcon := hρ.con; have hfn := hρ.fn; clear hρ hp; unfold OpRun; go_simp; exact hR _ _ (Below.refl _ _) rfl)
    case o2 => (refine StepOKF.plain rfl ?_; intro ρ w1 R hρ hb hp hR; have e17 : ρ (.tmp 17) = _ := hp 1 17 rfl rfl; replace hR := fun v w2 h1 h2 => hR v w2 h1 h2 (fun h => absurd h (by decide)); have hcon := hρ.con; have hfn := hρ.fn; clear hρ hp; unfold OpRun; go_simp; (refine (zTenD p _ (by first | assumption | omega)).mono ?_; rintro e wn ⟨v9, rfl, hz9, hbn⟩; exact ⟨_, rfl, hR _ _ hbn hz9⟩))
    case o3 => (refine StepOKF.plain rfl ?_; intro ρ w1 R hρ hb hp hR; have f16 := hp 0 16 rfl rfl; have f18 := hp 2 18 rfl rfl; replace hR := fun v w2 h1 h2 => hR v w2 h1 h2 (fun h => absurd h (by decide)); have hcon := hρ.con; have hfn := hρ.fn; clear hρ hp; unfold OpRun; go_simp; (refine (zmulD _ _ _ _ _ f16 f18 (by first | assumption | omega) (by first | assumption | omega)).mono ?_; rintro e wn ⟨v9, rfl, hz9, hbn⟩; exact ⟨_, rfl, hR _ _ hbn hz9⟩))
    case o4 => (refine StepOKF.plain rfl ?_; intro ρ w1 R hρ hb hp hR; have e7 : ρ (.tmp 7) = .pointer (some ⟨gv7, 0, none⟩) := hρ.tmp 7 rfl; obtain ⟨ya9, yc9, yj9, yn9⟩ := ZV.below zv7 hb; obtain ⟨j90, j91, -⟩ := yj9; replace hR := fun v w2 h1 h2 => hR v w2 h1 h2 (fun h => absurd h (by decide)); have hcon := hρ.con; have hfn := hρ.fn; clear hρ hp; unfold OpRun; go_simp; exact hR _ _ (Below.refl _ _) ⟨ya9, yc9, rfl, yn9⟩)
    case late =>
      intro o s ho hs
      simp only [List.getElem?_cons_succ, List.getElem?_cons_zero, Option.some.injEq] at ho hs
      subst ho
      subst hs
      intro ρ w1 hρ hb hp
      have e7 : ρ (.tmp 7) = .pointer (some ⟨gv7, 0, none⟩) := hρ.tmp 7 rfl
      have e4 : ρ (.tmp 4) = .pointer (some ⟨g4, 0, none⟩) := hρ.tmp 4 rfl
      have f19 := hp 3 19 (by omega) (by decide) rfl
      obtain ⟨ya, yc, yj, yn⟩ := zv7.below hb; obtain ⟨j0, j1, -⟩ := yj; obtain ⟨xa, xc, xe, xn⟩ := f19; obtain ⟨k0, k1, k2, k3, -⟩ := z4'.below hb
      have hcon := hρ.con
      refine ⟨.agg #[.bool (zneg (pw n)), .slice ya (zl (pw n)).length yc], (w1.setCell ⟨g4, 0, none⟩ (.bool (zneg (X.natAbs * tenZ p)))).setCell ⟨g4, 1, none⟩ (.slice xa (zl (X.natAbs * tenZ p)).length xc), ?_, ⟨ya, yc, rfl, yn⟩, ?_, ?_⟩
      all_goals (go_simp; try rfl)
    case after =>
      intro u wn hb hf hd
      have f19 := hf 3 19 (by omega) rfl
      have f20 := hf 4 20 (by omega) rfl
      clear hf hd
      simp only [putAll, Act.put, List.setIfInBounds_toArray, List.set_cons_zero, List.set_cons_succ, List.drop_succ_cons, List.drop_zero, List.drop_nil]
      obtain ⟨xa1, xc1, xe1, xn1⟩ := f19
      obtain ⟨xa2, xc2, xe2, xn2⟩ := f20
      rw [xe1, xe2]
      clear xe1 xe2
      have zz4 := z4'.below hb
      have zz5 := z5'.below hb
      obtain ⟨k0, k1, kf0, kf1, -⟩ := id zz4
      obtain ⟨l0, l1, lf0, lf1, -⟩ := id zz5
      have zst := zv_store2 (by decide) (below_trans y2 hb) b4 b5 n45 zz4 zz5 xn1 xn2
      go_wp2_with fail
      obtain ⟨hbw, ⟨a8, c8, zl8, n8⟩, ⟨a9, c9, zl9, n9⟩⟩ := zst
      obtain ⟨m0, m1, -⟩ := zl8
      obtain ⟨m2, m3, -⟩ := zl9
      refine bodyPost_ret (by simp [results, Tryz.results146, go_sem, m0, m1, m2, m3]; try rfl) rfl ?_
      exact ⟨_, rfl, ⟨_, _, _, _, rfl, n8, n9⟩, hbw⟩
theorem tenTimes_neg (X : Int) (n : Nat) (ao : Option Addr) (cap p : Nat) (w : World) (h0 : Nz 3 w ao cap (zl X)) (hX : (zl X).length ≤ 100000) (hn : n ≤ 100000) (hp : p ≤ 10000) (hp0 : 0 < p) :
    Calls Tryz.prog 146 #[.agg #[.bool (zneg X), .slice ao (zl X).length cap, .int .i64 (n : Int)], .int .i64 (-(p : Int))] w (RetZD2 3 w (X.natAbs : Int) (pw n * tenZ p)) := by
  have lt := Nat.le_trans (zl_len_ten p) (show p + 1 ≤ 100000000 by omega)
  have lP := Nat.le_trans (zl_len_pw n) (show n + 1 ≤ 100000000 by omega)
  have lX : (zl (X.natAbs : Int)).length ≤ 100000000 := by rw [zl_nat]; exact Nat.le_trans hX (by omega)
  have H0 := hid h0
  have hpn : ¬ 0 ≤ -(p : Int) := by omega
  clear h0
  go_enter Tryz.func146, Tryz.ntmps146
  go_upto_region 1 with fail
  refine wp_worldZ (fun WW => Below w.heap.size w WW ∧ ZV 41 3 WW w.heap.size X ∧ WW.cell? ⟨w.heap.size, 2, none⟩ = some (.int .i64 (n : Int)) ∧ ZL 39 WW (w.heap.size + 1) false (.slice none 0 0) ∧ ZL 39 WW (w.heap.size + 1 + 1) false (.slice none 0 0)) (tt_start 41 39 3 X n ao cap w H0.out) ?_
  intro W1 ⟨yb1, zQ, c2, z4, z5⟩
  obtain ⟨g5, hg5⟩ : ∃ g, g = w.heap.size + 1 + 1 := ⟨_, rfl⟩
  obtain ⟨g4, hg4⟩ : ∃ g, g = w.heap.size + 1 := ⟨_, rfl⟩
  obtain ⟨g2, hg2⟩ : ∃ g, g = w.heap.size := ⟨_, rfl⟩
  have b4 : w.heap.size ≤ g4 := by omega
  have b5 : w.heap.size ≤ g5 := by omega
  have n45 : g4 ≠ g5 := by omega
  rw [← hg5] at z5 ⊢
  rw [← hg4] at z4 ⊢
  rw [← hg2] at zQ c2
  rw [← hg2]
  clear hg2 hg4 hg5
  refine wp_region_growF 8 [8, 9, 10, 11, 12, 13, 6, 7] [Fact.is (.pointer (some ⟨g2, 0, none⟩)), Fact.z 3 (X), Fact.z 3 (((X).natAbs : Int)), Fact.is (.pointer (some ⟨g2, 2, none⟩)), Fact.is (.int .i64 (n : Int)), Fact.z 3 (pw n), Fact.z0 W1.heap.size 39, Fact.z0 W1.heap.size 39] [6, 7] (by kernel_rfl) (by kernel_rfl) ⟨?o0, ?o1, ?o2, ?o3, ?o4, ?o5, ?o6, ?o7, trivial⟩ ?after
  case o0 => (refine StepOKF.plain rfl ?_; intro ρ w1 R hρ hb hp hR; have e2 : ρ (.tmp 2) = .pointer (some ⟨g2, 0, none⟩) := hρ.tmp 2 rfl; replace hR := fun v w2 h1 h2 => hR v w2 h1 h2 (fun h => absurd h (by decide)); have hcon := hρ.con; have hfn := hρ.fn; clear hρ hp; unfold OpRun; go_simp; exact hR _ _ (Below.refl _ _) rfl)
  case o1 => (refine StepOKF.plain rfl ?_; intro ρ w1 R hρ hb hp hR; have e8 : ρ (.tmp 8) = _ := hp 0 8 rfl rfl; obtain ⟨ya9, yc9, yj9, yn9⟩ := ZV.below zQ hb; obtain ⟨j90, j91, -⟩ := yj9; replace hR := fun v w2 h1 h2 => hR v w2 h1 h2 (fun h => absurd h (by decide)); have hcon := hρ.con; have hfn := hρ.fn; clear hρ hp; unfold OpRun; go_simp; exact hR _ _ (Below.refl _ _) ⟨ya9, yc9, rfl, yn9⟩)
  case o2 => (refine StepOKF.plain rfl ?_; intro ρ w1 R hρ hb hp hR; have f9 := hp 1 9 rfl rfl; replace hR := fun v w2 h1 h2 => hR v w2 h1 h2 (fun h => absurd h (by decide)); have hcon := hρ.con; have hfn := hρ.fn; clear hρ hp; unfold OpRun; go_simp; (refine (zabsD _ _ _ f9).mono ?_; rintro e wn ⟨v9, rfl, hz9, hbn⟩; exact ⟨_, rfl, hR _ _ hbn hz9⟩))
  case o3 => (refine StepOKF.plain rfl ?_; intro ρ w1 R hρ hb hp hR; have e2 : ρ (.tmp 2) = .pointer (some ⟨g2, 0, none⟩) := hρ.tmp 2 rfl; replace hR := fun v w2 h1 h2 => hR v w2 h1 h2 (fun h => absurd h (by decide)); have hcon := hρ.con; have hfn := hρ.fn; clear hρ hp; unfold OpRun; go_simp; exact hR _ _ (Below.refl _ _) rfl)
  case o4 => (refine StepOKF.plain rfl ?_; intro ρ w1 R hρ hb hp hR; have e11 : ρ (.tmp 11) = _ := hp 3 11 rfl rfl; have j12 := (hb.cell (World.block_lt_of_cell? _ _ c2)).trans c2; replace hR := fun v w2 h1 h2 => hR v w2 h1 h2 (fun h => absurd h (by decide)); have hcon := hρ.con; have hfn := hρ.fn; clear hρ hp; unfold OpRun; go_simp; exact hR _ _ (Below.refl _ _) rfl)
  case o5 => (refine StepOKF.plain rfl ?_; intro ρ w1 R hρ hb hp hR; have e12 : ρ (.tmp 12) = _ := hp 4 12 rfl rfl; replace hR := fun v w2 h1 h2 => hR v w2 h1 h2 (fun h => absurd h (by decide)); have hcon := hρ.con; have hfn := hρ.fn; clear hρ hp; unfold OpRun; go_simp; (refine (zpowD n _ (by first | assumption | omega)).mono ?_; rintro e wn ⟨v9, rfl, hz9, hbn⟩; exact ⟨_, rfl, hR _ _ hbn hz9⟩))
  case o6 => (refine StepOKF.plain rfl ?_; intro ρ w1 R hρ hb hp hR; have hcon := hρ.con; have hfn := hρ.fn; clear hρ hp; unfold OpRun; go_simp; exact hR _ _ (below_alloc _ _) ⟨_, rfl, hb.size, ZL.made rfl⟩ (fun _ => ⟨_, rfl, Nat.le_refl _, by simp⟩))
  case o7 => (refine StepOKF.plain rfl ?_; intro ρ w1 R hρ hb hp hR; have hcon := hρ.con; have hfn := hρ.fn; clear hρ hp; unfold OpRun; go_simp; exact hR _ _ (below_alloc _ _) ⟨_, rfl, hb.size, ZL.made rfl⟩ (fun _ => ⟨_, rfl, Nat.le_refl _, by simp⟩))
  case after =>
    intro u wn hb hf hd
    have f10 := hf 2 10 (by omega) rfl
    have f13 := hf 5 13 (by omega) rfl
    have f6 := hf 6 6 (by omega) rfl
    have f7 := hf 7 7 (by omega) rfl
    have d6_7 : u 6 ≠ u 7 := hd 6 7 6 7 (by omega) (by omega) (by omega) rfl rfl rfl rfl
    clear hf hd
    simp only [putAll, Act.put, List.setIfInBounds_toArray, List.set_cons_zero, List.set_cons_succ, List.drop_succ_cons, List.drop_zero, List.drop_nil]
    obtain ⟨xa1, xc1, xe1, xn1⟩ := f10
    obtain ⟨xa2, xc2, xe2, xn2⟩ := f13
    obtain ⟨gv6, eg1, hg1, zz1⟩ := f6
    obtain ⟨gv7, eg2, hg2, zz2⟩ := f7
    have gne : gv6 ≠ gv7 := by intro h; apply d6_7; rw [eg1, eg2, h]
    rw [xe1, xe2, eg1, eg2]
    clear xe1 xe2 eg1 eg2 d6_7
    have zst := zv_store2 (by decide) hb hg1 hg2 gne zz1 zz2 xn1 xn2
    obtain ⟨k0, k1, kf0, kf1, -⟩ := id zz1
    obtain ⟨l0, l1, lf0, lf1, -⟩ := id zz2
    go_upto_region 2 with fail
    clear k0 k1 kf0 kf1 l0 l1 lf0 lf1 zz1 zz2 xn1 xn2 hb
    refine wp_worldZ (fun WW => Below _ _ WW ∧ ZV _ _ WW _ _ ∧ ZV _ _ WW _ _) zst ?_
    clear zst
    intro W2 ⟨y12, zv6, zv7⟩
    have y2 := below_trans yb1 y12
    have z4' := z4.below y12
    have z5' := z5.below y12
    have l4 := z4.lt
    have l5 := z5.lt
    have n47 : g4 ≠ gv7 := by omega
    have n46 : g4 ≠ gv6 := by omega
    have n57 : g5 ≠ gv7 := by omega
    have n56 : g5 ≠ gv6 := by omega
    clear z4 z5 zQ c2 yb1 y12 hg1 hg2 l4 l5
    go_upto_region 4 with fail
    refine wp_region_grow 6 [21, 22, 23, 24, 25, 26] [Fact.z 3 ((X.natAbs : Int)), Fact.z 3 (pw n), Fact.is (.int .i64 (-(p : Int))), Fact.is (.int .i64 (p : Int)), Fact.z 3 (tenZ p), Fact.z 3 ((pw n) * (tenZ p))] (by kernel_rfl) (by kernel_rfl) ⟨?o0, ?o1, ?o2, ?o3, ?o4, ?o5, trivial⟩ ?after
    case o0 => (refine StepOK.plain rfl ?_; intro ρ w1 R hρ hb hp hR; have e6 : ρ (.tmp 6) = .pointer (some ⟨gv6, 0, none⟩) := hρ.tmp 6 rfl; obtain ⟨ya9, yc9, yj9, yn9⟩ := ZV.below zv6 hb; obtain ⟨j90, j91, -⟩ := yj9; have hcon := hρ.con; have hfn := hρ.fn; clear hρ hp; unfold OpRun; go_simp; exact hR _ _ (Below.refl _ _) ⟨ya9, yc9, rfl, yn9⟩)
    case o1 => (refine StepOK.plain rfl ?_; intro ρ w1 R hρ hb hp hR; have e7 : ρ (.tmp 7) = .pointer (some ⟨gv7, 0, none⟩) := hρ.tmp 7 rfl; obtain ⟨ya9, yc9, yj9, yn9⟩ := ZV.below zv7 hb; obtain ⟨j90, j91, -⟩ := yj9; have hcon := hρ.con; have hfn := hρ.fn; clear hρ hp; unfold OpRun; go_simp; exact hR _ _ (Below.refl _ _) ⟨ya9, yc9, rfl, yn9⟩)
    case o2 => (refine StepOK.plain rfl ?_; intro ρ w1 R hρ hb hp hR; have e1 : ρ (.tmp 1) = .int .i64 (-(p : Int)) := hρ.tmp 1 rfl; have hcon := hρ.con; have hfn := hρ.fn; clear hρ hp; unfold OpRun; go_simp; exact hR _ _ (Below.refl _ _) rfl)
    case o3 => (refine StepOK.plain rfl ?_; intro ρ w1 R hρ hb hp hR; have e23 : ρ (.tmp 23) = _ := hp 2 23 rfl rfl; have hwp : IntKind.i64.wrap (p : Int) = (p : Int) := IntWalk.i64_in _ (by omega); have hcon := hρ.con; have hfn := hρ.fn; clear hρ hp; unfold OpRun; go_simp; exact hR _ _ (Below.refl _ _) rfl)
    case o4 => (refine StepOK.plain rfl ?_; intro ρ w1 R hρ hb hp hR; have e24 : ρ (.tmp 24) = _ := hp 3 24 rfl rfl; have hcon := hρ.con; have hfn := hρ.fn; clear hρ hp; unfold OpRun; go_simp; (refine (zTenD p _ (by first | assumption | omega)).mono ?_; rintro e wn ⟨v9, rfl, hz9, hbn⟩; exact ⟨_, rfl, hR _ _ hbn hz9⟩))
    case o5 => (refine StepOK.plain rfl ?_; intro ρ w1 R hρ hb hp hR; have f22 := hp 1 22 rfl rfl; have f25 := hp 4 25 rfl rfl; have hcon := hρ.con; have hfn := hρ.fn; clear hρ hp; unfold OpRun; go_simp; (refine (zmulD _ _ _ _ _ f22 f25 (by first | assumption | omega) (by first | assumption | omega)).mono ?_; rintro e wn ⟨v9, rfl, hz9, hbn⟩; exact ⟨_, rfl, hR _ _ hbn hz9⟩))
    case after =>
      intro u wn hb hf
      have f21 := hf 0 21 (by omega) rfl
      have f26 := hf 5 26 (by omega) rfl
      clear hf
      simp only [putAll, Act.put, List.setIfInBounds_toArray, List.set_cons_zero, List.set_cons_succ, List.drop_succ_cons, List.drop_zero, List.drop_nil]
      obtain ⟨xa1, xc1, xe1, xn1⟩ := f21
      obtain ⟨xa2, xc2, xe2, xn2⟩ := f26
      rw [xe1, xe2]
      clear xe1 xe2
      have zz4 := z4'.below hb
      have zz5 := z5'.below hb
      obtain ⟨k0, k1, kf0, kf1, -⟩ := id zz4
      obtain ⟨l0, l1, lf0, lf1, -⟩ := id zz5
      have zst := zv_store2 (by decide) (below_trans y2 hb) b4 b5 n45 zz4 zz5 xn1 xn2
      go_wp2_with fail
      obtain ⟨hbw, ⟨a8, c8, zl8, n8⟩, ⟨a9, c9, zl9, n9⟩⟩ := zst
      obtain ⟨m0, m1, -⟩ := zl8
      obtain ⟨m2, m3, -⟩ := zl9
      refine bodyPost_ret (by simp [results, Tryz.results146, go_sem, m0, m1, m2, m3]; try rfl) rfl ?_
      exact ⟨_, rfl, ⟨_, _, _, _, rfl, n8, n9⟩, hbw⟩
theorem tenTimes_any (v : Value) (D : Dy) (A T : Nat) (p : Int) (w : World) (hv : QD 3 w D A T v) (hA : A ≤ 100000) (hT : T ≤ 100000) (hp : -10000 ≤ p ∧ p ≤ 10000) :
    Calls Tryz.prog 146 #[v, .int .i64 p] w (RetTT 3 w D p) := by
  obtain ⟨X, n, ao, cap, rfl, hN, hD, hX, hn⟩ := hv
  have hr := nrm_ratio hD
  have lX := zl_len_bits X A hX
  have key : ∀ P : Nat, P ≤ 10000 → (zl (((X.natAbs * 10 ^ P : Nat)) : Int)).length ≤ 300000 ∧ (zl (((2 ^ n * 10 ^ P : Nat)) : Int)).length ≤ 300000 := by
    intro P hP
    have h1 : (10 : Nat) ^ P ≤ (2 ^ 4) ^ P := Nat.pow_le_pow_left (by decide) P
    rw [← Nat.pow_mul] at h1
    have h2 : 0 < 10 ^ P := Nat.pow_pos (by omega)
    constructor
    · refine Nat.le_trans (zl_len_bits _ (A + 4 * P) ?_) (by omega)
      rw [Int.natAbs_natCast, Nat.pow_add]
      exact Nat.lt_of_lt_of_le (Nat.mul_lt_mul_of_pos_right hX h2) (Nat.mul_le_mul_left _ h1)
    · refine Nat.le_trans (zl_len_bits _ (n + 1 + 4 * P) ?_) (by omega)
      rw [Int.natAbs_natCast, Nat.pow_add]
      exact Nat.lt_of_lt_of_le (Nat.mul_lt_mul_of_pos_right (Nat.pow_lt_pow_right (by omega) (Nat.lt_succ_self n)) h2) (Nat.mul_le_mul_left _ h1)
  by_cases h : 0 ≤ p
  · obtain ⟨P, rfl⟩ := Int.eq_ofNat_of_zero_le h
    obtain ⟨k1, -⟩ := key P (by omega)
    obtain ⟨-, k2⟩ := key 0 (by omega)
    rw [Nat.pow_zero, Nat.mul_one] at k2
    refine (tenTimes_pos X n ao cap P w hN (by omega) (by omega) (by omega)).mono ?_
    rintro e w' ⟨v, h1, h2, h3⟩
    refine ⟨X.natAbs * 10 ^ P, 2 ^ n, v, h1, ?_, Nat.two_pow_pos n, ?_, k1, k2, h3⟩
    · rw [Int.natCast_mul]; exact h2
    · unfold tnN
      rw [show (-(P : Int)).toNat = 0 by omega, Int.toNat_natCast, Nat.pow_zero, Nat.mul_one, Nat.mul_right_comm, hr, Nat.mul_right_comm]
  · obtain ⟨P, hP⟩ : ∃ P : Nat, p = -(P : Int) := ⟨(-p).toNat, by omega⟩
    subst hP
    obtain ⟨-, k1⟩ := key P (by omega)
    obtain ⟨k2, -⟩ := key 0 (by omega)
    rw [Nat.pow_zero, Nat.mul_one] at k2
    refine (tenTimes_neg X n ao cap P w hN (by omega) (by omega) (by omega) (by omega)).mono ?_
    rintro e w' ⟨v, h1, h2, h3⟩
    refine ⟨X.natAbs, 2 ^ n * 10 ^ P, v, h1, ?_, Nat.mul_pos (Nat.two_pow_pos n) (Nat.pow_pos (by omega)), ?_, k2, k1, h3⟩
    · rw [Int.natCast_mul]; exact h2
    · unfold tnN
      rw [show (-(P : Int)).toNat = 0 by omega, show (- -(P : Int)).toNat = P by omega, Nat.pow_zero, Nat.mul_one, ← Nat.mul_assoc, hr, Nat.mul_assoc]
end Go.Proofs.YthaelmnblgollaaGreatDoor
