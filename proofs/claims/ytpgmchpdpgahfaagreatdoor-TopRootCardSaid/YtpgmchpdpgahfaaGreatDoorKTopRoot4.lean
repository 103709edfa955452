/- TopRoot: what the proof leans on, part 4 (Q1 RegL Zt Tx1 Float). -/
import Derived.StillTail
import Derived.WalkKit
import Derived.Deep.DeepCutAuto
import Derived.Deep.CutBlock
import Derived.BigRegion
import Derived.Deep.RegionHeld3
import Derived.Laws.Concat
import Derived.Test.YtpgmchpdpgahfaaGreatDoorRows
import Derived.Test.YtpgmchpdpgahfaaGreatDoorKTopRoot2
import Derived.Test.YtpgmchpdpgahfaaGreatDoorKTopRoot3
namespace Go.Ulp
open Go.RowKit
end Go.Ulp
namespace Go.Proofs.YtpgmchpdpgahfaaGreatDoor
open Go.RowKit Go.Ulp
set_option linter.unusedVariables false
set_option linter.unusedSimpArgs false
set_option maxHeartbeats 1000000
set_option maxRecDepth 100000
end Go.Proofs.YtpgmchpdpgahfaaGreatDoor
namespace Go.Ulp
open Go.RowKit
theorem Ns.drop {k : IntKind} {w : World} {b off cap : Nat} {L : List Nat} (h : Ns k w (some ⟨b, off, none⟩) cap L) (n : Nat) (hn : n ≤ L.length) : Ns k w (some ⟨b, off + n, none⟩) (cap - n) (L.drop n) := by
  obtain ⟨h1, h2, h3⟩ := h
  refine ⟨by rw [List.length_drop]; omega, by omega, fun hp => ?_⟩
  rw [List.length_drop] at hp
  obtain ⟨b', off', e, hc⟩ := h3 (by omega)
  obtain ⟨rfl, rfl⟩ : b = b' ∧ off = off' := by simpa using e
  refine ⟨b, off + n, rfl, fun i hi => ?_⟩
  rw [List.length_drop] at hi
  have := hc (n + i) (by omega)
  rw [Nat.add_assoc, this]
  unfold lb
  rw [getD_in L (n + i) (by omega), getD_in (L.drop n) i (by rw [List.length_drop]; omega), List.getElem_drop]
theorem Lim.take {L : List Nat} (h : Lim L) (k : Nat) : Lim (L.take k) := AllLt.take h k
theorem Lim.drop {L : List Nat} (h : Lim L) (k : Nat) : Lim (L.drop k) := AllLt.drop h k
end Go.Ulp
namespace Go.Proofs.YtpgmchpdpgahfaaGreatDoor
open Go.RowKit Go.Ulp
set_option linter.unusedVariables false
set_option linter.unusedSimpArgs false
set_option maxHeartbeats 1000000
set_option maxRecDepth 100000
end Go.Proofs.YtpgmchpdpgahfaaGreatDoor
namespace Go.Ulp
open Go.RowKit
/-- block g is a variable of type Q (number t) -/
def QL (t : TypeId) (w : World) (g : Nat) (n : Bool) (v : Value) (k : Int) : Prop :=
  ZL t w g n v ∧ w.cell? ⟨g, 2, none⟩ = some (.int .i64 k) ∧ w.frozen? ⟨g, 2, none⟩ = false
theorem QL.lt {t : TypeId} {w : World} {g : Nat} {n : Bool} {v : Value} {k : Int} (h : QL t w g n v k) : g < w.heap.size := h.1.lt
theorem QL.belowB {t : TypeId} {B : Nat} {w w' : World} {g : Nat} {n : Bool} {v : Value} {k : Int} (h : QL t w g n v k) (hb : Below B w w') (hB : g < B) : QL t w' g n v k :=
  ⟨h.1.belowB hb hB, (hb.cell (p := ⟨g, 2, none⟩) hB).trans h.2.1, (hb.frozen (p := ⟨g, 2, none⟩) hB).trans h.2.2⟩
theorem QL.below {t : TypeId} {w w' : World} {g : Nat} {n : Bool} {v : Value} {k : Int} (h : QL t w g n v k) (hb : Below w.heap.size w w') : QL t w' g n v k := h.belowB hb h.lt
theorem QL.alloc {t : TypeId} {w : World} {g : Nat} {n : Bool} {v : Value} {k : Int} (h : QL t w g n v k) (o : Obj) : QL t (w.alloc o) g n v k := h.below (below_alloc _ _)
theorem QL.drew {t : TypeId} {w : World} {g : Nat} {n : Bool} {v : Value} {k : Int} (h : QL t w g n v k) : QL t w.drew g n v k := h
theorem QL.drewN {t : TypeId} {w : World} {g : Nat} {n : Bool} {v : Value} {k : Int} (h : QL t w g n v k) (j : Nat) : QL t (w.drewN j) g n v k := h
theorem QL.made {t : TypeId} {w : World} {g : Nat} {n : Bool} {v : Value} {k : Int} (hg : g = w.heap.size) : QL t (w.alloc (.cells #[.bool n, v, .int .i64 k] t)) g n v k := by
  subst hg
  refine ⟨⟨?_, ?_, ?_, ?_, ElemIs.made _ _ _⟩, ?_, ?_⟩
  · rw [World.cell?_alloc_at (hn := rfl)]; rfl
  · rw [World.cell?_alloc_at (hn := rfl)]; rfl
  · unfold World.frozen?; rw [heap_alloc_new]; simp
  · unfold World.frozen?; rw [heap_alloc_new]; simp
  · rw [World.cell?_alloc_at (hn := rfl)]; rfl
  · unfold World.frozen?; rw [heap_alloc_new]; simp
end Go.Ulp
namespace Go.Proofs.YtpgmchpdpgahfaaGreatDoor
open Go.RowKit Go.Ulp
set_option linter.unusedVariables false
set_option linter.unusedSimpArgs false
set_option maxHeartbeats 1000000
set_option maxRecDepth 100000
end Go.Proofs.YtpgmchpdpgahfaaGreatDoor

set_option linter.unusedVariables false
set_option linter.unusedSimpArgs false
namespace Go.Ulp
open Go Go.RowKit
/-- what is known of a value, in every world that has grown -/
structure Fact where
  holds : Value → World → Prop
  keep : ∀ v w w', holds v w → Below w.heap.size w w' → holds v w'
def Fact.is (c : Value) : Fact := ⟨fun v _ => v = c, fun _ _ _ h _ => h⟩
def Fact.any : Fact := ⟨fun _ _ => True, fun _ _ _ _ _ => trivial⟩
abbrev fact (Fs : List Fact) (i : Nat) : Fact := Fs.getD i Fact.any

def RetV (R : Value → World → Prop) (e : Ending) (w : World) : Prop := ∃ v, e = .returned v ∧ R v w
/-- an operation, run once: it yields a value and leaves a world -/
def OpRun (P : Program) (o : Oper) (ρ : Operand → Value) (w : World) (R : Value → World → Prop) : Prop :=
  match (execOp ρ o).run P w with
  | .ok (.value v) w' => R v w'
  | .ok .skip w' => R undef w'
  | .ok (.enter f args) w' => Calls P f args w' (RetV R)
  | _ => False
theorem OpRun.wp {P : Program} {o : Oper} {a : Act} {w : World} {R : Value → World → Prop} {Q : Exit → Act → World → Prop} (h : OpRun P o a.eval w R) :
    o.wp P a w (fun a' w' => ∃ v, a' = a.put o.dst v ∧ R v w') Q := by
  unfold OpRun at h
  unfold Oper.wp
  generalize (execOp a.eval o).run P w = r at *
  cases r with
  | ok n w' =>
    cases n <;> simp only [Oper.upon] at h ⊢
    case value v => exact ⟨v, rfl, h⟩
    case skip => exact ⟨_, rfl, h⟩
    case enter f args =>
      refine Calls.mono h fun e w'' he => ?_
      obtain ⟨v, rfl, hr⟩ := he
      exact ⟨v, rfl, hr⟩
  | halt x w' => exact h.elim
def guardOf (ops : Array Oper) (o : Oper) (ρ : Operand → Value) : Bool :=
  match o.guard with
  | none => true
  | some (j, want) => match (ops[j]?).bind (·.dst) with
    | some d => (match ρ (.tmp d) with | .bool b => b == want | _ => false)
    | none => false
theorem guardOf_eq (ops : Array Oper) (o : Oper) (a : Act) : Region.wanted o (yielded ops a.tmps) = guardOf ops o a.eval := by
  unfold Region.wanted guardOf
  cases hg : o.guard with
  | none => rfl
  | some gw =>
    obtain ⟨j, want⟩ := gw
    simp only
    unfold yielded
    cases hd : (ops[j]?).bind (·.dst) with
    | none => rfl
    | some d =>
      simp only [Option.bind_some, Act.eval, Array.getD_eq_getD_getElem?]
      cases ht : a.tmps[d]? with
      | none => simp [undef]
      | some v => cases v <;> simp
section
variable {P : Program} {ops : Array Oper} {md : Region.Mode}
def dstOf (ops : Array Oper) (i : Nat) : Option Tmp := (ops[i]?).bind (·.dst)
def putAll (a : Act) : List Tmp → (Tmp → Value) → Act
  | [], _ => a
  | t :: r, u => putAll (a.put (some t) (u t)) r u
def cnt (listed : Array Bool) : Nat → Nat
  | 0 => 0
  | k + 1 => cnt listed k + (if listed.getD k false = true then 0 else 1)
theorem cnt_zero {listed : Array Bool} {n : Nat} (h : cnt listed n = 0) : ∀ i, i < n → listed.getD i false = true := by
  induction n with
  | zero => intro i hi; omega
  | succ n ih =>
    intro i hi
    simp only [cnt] at h
    by_cases e : i = n
    · subst e
      by_cases hh : listed.getD i false = true
      · exact hh
      · rw [if_neg hh] at h; omega
    · exact ih (by omega) i (by omega)
theorem cnt_set_ge {listed : Array Bool} {n i : Nat} (h : n ≤ i) : cnt (listed.setIfInBounds i true) n = cnt listed n := by
  induction n with
  | zero => rfl
  | succ n ih => simp only [cnt]; rw [ih (by omega), getD_set_ne false (by omega)]
theorem cnt_set {listed : Array Bool} {n i : Nat} (hi : i < n) (hs : i < listed.size) (hl : listed.getD i false = false) : cnt (listed.setIfInBounds i true) n + 1 = cnt listed n := by
  induction n with
  | zero => omega
  | succ n ih =>
    simp only [cnt]
    by_cases e : i = n
    · subst e
      have h1 : (listed.setIfInBounds i true).getD i false = true := by simp [hs]
      rw [cnt_set_ge (Nat.le_refl _), h1, hl]; simp
    · rw [getD_set_ne false e]
      have := ih (by omega)
      omega
theorem wpAny_more {Q : Exit → Act → World → Prop} : ∀ (f : Nat) (listed : Array Bool) (a : Act) (w : World), wpAny P md ops Q f listed a w → wpAny P md ops Q (f + 1) listed a w
  | 0, listed, a, w, h => ⟨fun _ => h.2, fun i hi => by rw [h.1] at hi; cases hi⟩
  | f + 1, listed, a, w, h => ⟨h.1, fun i hi => wpOp_mono (fun a' w' h' => wpAny_more f _ a' w' h') (h.2 i hi)⟩
theorem wpAny_more' {Q : Exit → Act → World → Prop} {f : Nat} {listed : Array Bool} {a : Act} {w : World} (h : wpAny P md ops Q f listed a w) : ∀ m, wpAny P md ops Q (m + f) listed a w
  | 0 => by rw [Nat.zero_add]; exact h
  | m + 1 => by rw [show m + 1 + f = (m + f) + 1 by omega]; exact wpAny_more _ _ _ _ (wpAny_more' h m)
def firstN (n N : Nat) : Array Bool := ((List.range N).map fun i => decide (i < n)).toArray
/-- the closed facts of a region whose first n operations are met one by one -/
def growB (ops : Array Oper) (n : Nat) (ds : List Tmp) (N : Nat) : Bool :=
  ((List.range n).all fun i => match dstOf ops i with | none => true | some d => ds.contains d && decide (d < N)) &&
  ((List.range n).all fun i => (List.range n).all fun j => decide (i = j) || (match dstOf ops i, dstOf ops j with | some d, some e => decide (d ≠ e) | _, _ => true)) &&
  ((List.range n).all fun i => match ops[i]? with | none => false | some o => o.after.all fun e => !Region.binds .any e || decide (e.on < i)) &&
  (decide (n = ops.size) || (decide (n < ops.size) && Region.sinkB .any ops n && Region.chainB .any ops n)) &&
  Region.seqB .any ops (ops.size - n) n (firstN n ops.size)
def Away (ds : List Tmp) (a0 a : Act) : Prop := a.tmps.size = a0.tmps.size ∧ a.defers = a0.defers ∧ ∀ t, t ∉ ds → a.tmps[t]? = a0.tmps[t]?
theorem Away.eval {ds : List Tmp} {a0 a : Act} (h : Away ds a0 a) (t : Tmp) (ht : ds.contains t = false) : a.eval (.tmp t) = a0.eval (.tmp t) := by
  have : t ∉ ds := by simpa using ht
  simp only [Act.eval, Array.getD_eq_getD_getElem?, h.2.2 t this]
theorem Away.put {ds : List Tmp} {a0 a : Act} (h : Away ds a0 a) (d : Option Tmp) (hd : ∀ t, d = some t → t ∈ ds) (v : Value) : Away ds a0 (a.put d v) := by
  cases d with
  | none => exact h
  | some d =>
    refine ⟨by simp [Act.put, h.1], h.2.1, fun t ht => ?_⟩
    have hne : d ≠ t := fun e => ht (e ▸ hd d rfl)
    simp only [Act.put]
    rw [Array.getElem?_setIfInBounds_ne hne]
    exact h.2.2 t ht
theorem putAll_get (ds : List Tmp) (u : Tmp → Value) : ∀ (a : Act) (t : Tmp), (putAll a ds u).tmps[t]? = if t ∈ ds ∧ t < a.tmps.size then some (u t) else a.tmps[t]? := by
  induction ds with
  | nil => intro a t; simp [putAll]
  | cons d r ih =>
    intro a t
    rw [putAll, ih]
    have hs : (a.put (some d) (u d)).tmps.size = a.tmps.size := by simp [Act.put]
    rw [hs]
    by_cases h1 : t ∈ r ∧ t < a.tmps.size
    · rw [if_pos h1, if_pos ⟨List.mem_cons_of_mem _ h1.1, h1.2⟩]
    · rw [if_neg h1]
      by_cases h2 : t = d
      · subst h2
        by_cases h3 : t < a.tmps.size
        · rw [if_pos ⟨List.mem_cons_self, h3⟩]; simp [Act.put, h3]
        · rw [if_neg (fun h => h3 h.2)]; simp only [Act.put]; rw [Array.getElem?_eq_none (by simpa using h3), Array.getElem?_eq_none (by simpa using h3)]
      · rw [if_neg (fun h => (by rcases List.mem_cons.1 h.1 with e | e; exact h2 e; exact h1 ⟨e, h.2⟩))]
        simp only [Act.put]; rw [Array.getElem?_setIfInBounds_ne (Ne.symm h2)]
theorem putAll_size (ds : List Tmp) (u : Tmp → Value) : ∀ a : Act, (putAll a ds u).tmps.size = a.tmps.size ∧ (putAll a ds u).defers = a.defers := by
  induction ds with
  | nil => intro a; exact ⟨rfl, rfl⟩
  | cons d r ih => intro a; rw [putAll]; have := ih (a.put (some d) (u d)); exact ⟨by rw [this.1]; simp [Act.put], by rw [this.2]; rfl⟩
theorem Away.lit {ds : List Tmp} {a0 a : Act} (h : Away ds a0 a) : a = putAll a0 ds (fun t => a.eval (.tmp t)) := by
  obtain ⟨s1, s2⟩ := putAll_size ds (fun t => a.eval (.tmp t)) a0
  have e1 : a.tmps = (putAll a0 ds (fun t => a.eval (.tmp t))).tmps := by
    apply Array.ext_getElem?
    intro t
    rw [putAll_get]
    split
    · rename_i ht
      have hlt : t < a.tmps.size := by rw [h.1]; exact ht.2
      simp [Act.eval, Array.getD_eq_getD_getElem?, hlt]
    · rename_i ht
      by_cases hm : t ∈ ds
      · have : a0.tmps.size ≤ t := by
          rcases Nat.lt_or_ge t a0.tmps.size with h' | h'
          · exact absurd ⟨hm, h'⟩ ht
          · exact h'
        rw [Array.getElem?_eq_none (by rw [h.1]; exact this), Array.getElem?_eq_none this]
      · exact h.2.2 t hm
  cases a with
  | mk tm df =>
    cases hb : putAll a0 ds (fun t => (Act.mk tm df).eval (.tmp t)) with
    | mk tm2 df2 =>
      rw [hb] at e1 s2
      simp only at e1 s2
      have e2 := h.2.1
      simp only at e2
      rw [e1, e2, s2]
def AllOps (R : Nat → Oper → Prop) : Nat → List Oper → Prop
  | _, [] => True
  | k, o :: r => R k o ∧ AllOps R (k + 1) r
theorem AllOps.get {R : Nat → Oper → Prop} : ∀ (l : List Oper) (k : Nat), AllOps R k l → ∀ i o, l[i]? = some o → R (k + i) o
  | [], _, _, i, o, h => by simp at h
  | x :: r, k, h, i, o, hi => by
    cases i with
    | zero => simp at hi; subst hi; exact h.1
    | succ i => have := AllOps.get r (k + 1) h.2 i o (by simpa using hi); rwa [show k + 1 + i = k + (i + 1) by omega] at this
/-- operation i waits for operation j -/
def waitsB (ops : Array Oper) (i j : Nat) : Bool :=
  match ops.toList[i]? with
  | some o => o.after.toList.any fun e => Region.binds .any e && Nat.beq e.on j
  | none => false
theorem waitsB_spec {i j : Nat} (h : waitsB ops i j = true) : ∃ oi, ops[i]? = some oi ∧ ∃ e ∈ oi.after, Region.binds .any e = true ∧ e.on = j := by
  unfold waitsB at h
  split at h
  · rename_i o ho
    obtain ⟨e, he, hb⟩ := List.any_eq_true.1 h
    simp only [Bool.and_eq_true] at hb
    exact ⟨o, by simpa using ho, e, by simpa using he, hb.1, Nat.eq_of_beq_eq_true hb.2⟩
  · cases h
/-- what an operation reads -/
structure EnvOK (ds : List Tmp) (a0 : Act) (ρ : Operand → Value) : Prop where
  tmp : ∀ t, ds.contains t = false → ρ (.tmp t) = a0.eval (.tmp t)
  con : ∀ v, ρ (.const v) = v
  fn : ∀ f, ρ (.func f) = .func (.func f) #[] #[]
/-- what is asked of an operation -/
def StepOK (P : Program) (ops : Array Oper) (Fs : List Fact) (C : World → Prop) (ds : List Tmp) (a0 : Act) (i : Nat) (o : Oper) : Prop :=
  ∀ (ρ : Operand → Value) (w : World) (R : Value → World → Prop), EnvOK ds a0 ρ → C w → (∀ j d, waitsB ops i j = true → dstOf ops j = some d → (fact Fs j).holds (ρ (.tmp d)) w) →
    (∀ v w', Below w.heap.size w w' → (fact Fs i).holds v w' → R v w') →
    (guardOf ops o ρ = true → OpRun P o ρ w R) ∧ (guardOf ops o ρ = false → (fact Fs i).holds undef w)
theorem StepOK.plain {Fs : List Fact} {C : World → Prop} {ds : List Tmp} {a0 : Act} {i : Nat} {o : Oper} (hg : o.guard = none)
    (h : ∀ (ρ : Operand → Value) (w : World) (R : Value → World → Prop), EnvOK ds a0 ρ → C w → (∀ j d, waitsB ops i j = true → dstOf ops j = some d → (fact Fs j).holds (ρ (.tmp d)) w) →
      (∀ v w', Below w.heap.size w w' → (fact Fs i).holds v w' → R v w') → OpRun P o ρ w R) : StepOK P ops Fs C ds a0 i o :=
  fun ρ w R h1 h2 h3 h4 => ⟨fun _ => h ρ w R h1 h2 h3 h4, fun hf => by simp [guardOf, hg] at hf⟩
structure GInv (ops : Array Oper) (n : Nat) (Fs : List Fact) (C : World → Prop) (ds : List Tmp) (a0 : Act) (listed : Array Bool) (a : Act) (w : World) : Prop where
  head : HeadInv .any ops n listed
  away : Away ds a0 a
  con : C w
  facts : ∀ j d, j < n → listed.getD j false = true → dstOf ops j = some d → (fact Fs j).holds (a.eval (.tmp d)) w
theorem eval_put_self (a : Act) (d : Tmp) (v : Value) (h : d < a.tmps.size) : (a.put (some d) v).eval (.tmp d) = v := by simp [Act.eval, Act.put, h]
theorem eval_put_other (a : Act) (d : Option Tmp) (t : Tmp) (v : Value) (h : ∀ e, d = some e → e ≠ t) : (a.put d v).eval (.tmp t) = a.eval (.tmp t) := by
  cases d with
  | none => rfl
  | some d => simp only [Act.eval, Act.put, Array.getD_eq_getD_getElem?]; rw [Array.getElem?_setIfInBounds_ne (h d rfl)]
theorem firstN_of {listed : Array Bool} {n : Nat} (hs : listed.size = ops.size) (h1 : ∀ i, i < n → listed.getD i false = true) (h2 : ∀ t, n ≤ t → t < ops.size → listed.getD t true = false) : listed = firstN n ops.size := by
  apply Array.ext
  · simp [firstN, hs]
  · intro i hi hi'
    simp only [firstN, List.getElem_toArray, List.getElem_map, List.getElem_range]
    by_cases h : i < n
    · have := h1 i h; simp [hi] at this; rw [this, decide_eq_true h]
    · have := h2 i (by omega) (by omega); simp [hi] at this; rw [this, decide_eq_false h]
theorem grow_sound {Q : Exit → Act → World → Prop} {l : List Oper} {n : Nat} {Fs : List Fact} {C : World → Prop} {ds : List Tmp} {a0 : Act} (hB : growB l.toArray n ds a0.tmps.size = true)
    (hCk : ∀ w w', C w → Below w.heap.size w w' → C w')
    (hop : ∀ i o, i < n → l[i]? = some o → StepOK P l.toArray Fs C ds a0 i o)
    (hend : ∀ (u : Tmp → Value) w, C w → (∀ j d, j < n → dstOf l.toArray j = some d → (fact Fs j).holds (u d) w) → wpList P l.toArray Q (l.drop n) (putAll a0 ds u) w) :
    ∀ (m : Nat) (listed : Array Bool) (a : Act) (w : World), GInv l.toArray n Fs C ds a0 listed a w → cnt listed n ≤ m → wpAny P .any l.toArray Q (m + (l.drop n).length) listed a w := by
  simp only [growB, Bool.and_eq_true, Bool.or_eq_true, decide_eq_true_eq, List.all_eq_true, List.mem_range] at hB
  obtain ⟨⟨⟨⟨b1, b2⟩, b3⟩, b4⟩, b5⟩ := hB
  have hns : n ≤ l.toArray.size := by rcases b4 with h | h; omega; omega
  have hlen : (l.drop n).length = l.toArray.size - n := by simp
  have done : ∀ listed a w, GInv l.toArray n Fs C ds a0 listed a w → cnt listed n = 0 → wpAny P .any l.toArray Q (l.drop n).length listed a w := by
    intro listed a w inv hc
    have h1 := cnt_zero hc
    have e := firstN_of (ops := l.toArray) inv.head.size h1 inv.head.tail
    have hs : Region.seqB .any l.toArray (l.drop n).length n listed = true := by rw [hlen, e]; exact b5
    have ha := inv.away.lit
    rw [ha]
    exact wpAny_of_seq (l.drop n) n listed _ w (fun j => by simp [List.getElem?_drop]) hs (hend _ w inv.con (fun j d hj hd => inv.facts j d hj (h1 j hj) hd))
  intro m
  induction m with
  | zero => intro listed a w inv hc; rw [Nat.zero_add]; exact done listed a w inv (by omega)
  | succ m ih =>
    intro listed a w inv hc
    by_cases h0 : cnt listed n = 0
    · exact wpAny_more' (done listed a w inv h0) _
    · -- some operation of the first n is not listed; the least of them is ready
      have hex : ∃ i, i < n ∧ listed.getD i false = false := by
        rcases Classical.em (∃ i, i < n ∧ listed.getD i false = false) with h | h
        · exact h
        · exfalso; apply h0
          have hall : ∀ i, i < n → listed.getD i false = true := fun i hi => by
            cases hh : listed.getD i false with
            | true => rfl
            | false => exact absurd ⟨i, hi, hh⟩ h
          have : ∀ k, k ≤ n → cnt listed k = 0 := by
            intro k
            induction k with
            | zero => intro _; rfl
            | succ k ihk => intro hk; simp only [cnt]; rw [ihk (by omega), if_pos (hall k (by omega))]
          exact this n (Nat.le_refl _)
      have hmin : ∃ i, i < n ∧ listed.getD i false = false ∧ ∀ j, j < i → listed.getD j false = true := by
        obtain ⟨i, hi, hl⟩ := hex
        induction i using Nat.strongRecOn with
        | _ i ihi =>
          rcases Classical.em (∃ j, j < i ∧ listed.getD j false = false) with ⟨j, hj, hjl⟩ | h
          · exact ihi j hj (by omega) hjl
          · exact ⟨i, hi, hl, fun j hj => by
              cases hh : listed.getD j false with
              | true => rfl
              | false => exact absurd ⟨j, hj, hh⟩ h⟩
      obtain ⟨i0, hi0, hl0, hbelow⟩ := hmin
      have hready0 : i0 ∈ Region.ready .any l.toArray listed := by
        rw [mem_ready]
        refine ⟨Go.getD_in (by rw [inv.head.size]; omega) hl0, ?_⟩
        have := b3 i0 hi0
        cases ho : l.toArray[i0]? with
        | none => rw [ho] at this; cases this
        | some o =>
          rw [ho] at this
          refine ⟨o, rfl, fun e he hb => ?_⟩
          have h2 := Array.all_eq_true_iff_forall_mem.1 this e he
          rw [hb] at h2
          simp at h2
          exact hbelow _ h2
      have hun : listed.getD i0 true = false := (mem_ready.1 hready0).1
      rw [show m + 1 + (l.drop n).length = (m + (l.drop n).length) + 1 by omega]
      refine ⟨fun h => (by rw [h] at hready0; cases hready0), fun i hi => ?_⟩
      obtain ⟨hiun, oi, hoi, hall⟩ := mem_ready.1 hi
      have his : i < l.toArray.size := (Array.getElem?_eq_some_iff.1 hoi).1
      have hin : i < n := by
        rcases Nat.lt_or_ge i n with h | h
        · exact h
        · rcases b4 with h4 | ⟨⟨h4, hs⟩, hc'⟩
          · omega
          · exact absurd hi (tail_waits hs hc' h4 inv.head _ i0 rfl hi0 hun i h)
      have hoil : l[i]? = some oi := by simpa using hoi
      have hst := fun R hR => hop i oi hin hoil a.eval w R ⟨fun t ht => inv.away.eval t ht, fun _ => rfl, fun _ => rfl⟩ inv.con (fun j d hw hd => by
        obtain ⟨oj, hoj, e, he, hb, hon⟩ := waitsB_spec hw
        have e1 : oj = oi := Option.some.inj (hoj.symm.trans hoi)
        subst e1
        have h3 := hall e he hb
        rw [hon] at h3
        have hjn : j < n := by
          have := b3 i hin
          rw [hoi] at this
          have h2 := Array.all_eq_true_iff_forall_mem.1 this e he
          rw [hb] at h2
          simp at h2
          omega
        exact inv.facts j d hjn h3 hd) hR
      have hdsti : dstOf l.toArray i = oi.dst := by unfold dstOf; rw [hoi]; rfl
      have hdm : ∀ t, oi.dst = some t → t ∈ ds ∧ t < a0.tmps.size := by
        intro t ht
        have := b1 i hin
        rw [hdsti, ht] at this
        simp only [Bool.and_eq_true, List.contains_iff_mem, decide_eq_true_eq] at this
        exact this
      have next : ∀ v w', Below w.heap.size w w' → (fact Fs i).holds v w' → GInv l.toArray n Fs C ds a0 (listed.setIfInBounds i true) (a.put oi.dst v) w' := by
        intro v w' hb hv
        refine ⟨inv.head.set hi hin, inv.away.put _ (fun t ht => (hdm t ht).1) v, hCk _ _ inv.con hb, fun j d hj hl hd => ?_⟩
        by_cases e : i = j
        · subst e
          rw [hdsti] at hd
          rw [hd, eval_put_self _ _ _ (by rw [inv.away.1]; exact (hdm d hd).2)]
          exact hv
        · rw [getD_set_ne false e] at hl
          rw [eval_put_other]
          · exact (fact Fs j).keep _ _ _ (inv.facts j d hj hl hd) hb
          · intro d' hd' heq
            subst heq
            have := b2 i hin j hj
            rcases this with h | h
            · exact e h
            · rw [hdsti, hd', hd] at h
              simp at h
      have hcn : cnt (listed.setIfInBounds i true) n ≤ m := by
        have := cnt_set hin (by rw [inv.head.size]; exact his) (getD_both hiun)
        omega
      unfold wpOp
      rw [hoi]
      simp only
      rw [guardOf_eq]
      cases hg : guardOf l.toArray oi a.eval with
      | true =>
        simp only [if_true]
        left
        refine Oper.wp_mono ?_ (OpRun.wp ((hst (fun v w' => Below w.heap.size w w' ∧ (fact Fs i).holds v w') (fun v w' hb hv => ⟨hb, hv⟩)).1 hg))
        rintro a' w' ⟨v, rfl, hb, hv⟩
        exact ih _ _ _ (next v w' hb hv) hcn
      | false =>
        simp only [Bool.false_eq_true, if_false]
        exact ih _ _ _ (next undef w (Below.refl _ _) ((hst (fun v w' => True) (fun _ _ _ _ => trivial)).2 hg)) hcn
theorem wp_region_grow {id : Nat} {l : List Oper} {Q : Exit → Act → World → Prop} {a0 : Act} {w0 : World} (n : Nat) (ds : List Tmp) (Fs : List Fact)
    (hm : P.follows .mixedOrders = true) (hB : growB l.toArray n ds a0.tmps.size = true)
    (hop : AllOps (StepOK P l.toArray Fs (fun w => Below w0.heap.size w0 w) ds a0) 0 (l.take n))
    (hend : ∀ (u : Tmp → Value) w, Below w0.heap.size w0 w → (∀ j d, j < n → dstOf l.toArray j = some d → (fact Fs j).holds (u d) w) → wpList P l.toArray Q (l.drop n) (putAll a0 ds u) w) :
    (Code.region id l.toArray true).wp P Q a0 w0 := by
  have hns : n ≤ l.length := by
    simp only [growB, Bool.and_eq_true, Bool.or_eq_true, decide_eq_true_eq] at hB
    obtain ⟨⟨_, b4⟩, _⟩ := hB
    have : l.toArray.size = l.length := by simp
    rcases b4 with h | h
    · omega
    · omega
  refine wp_region_any hm ?_
  have H := grow_sound (P := P) (Q := Q) (C := fun w => Below w0.heap.size w0 w) hB (fun w w' h k => h.trans (k.mono h.size)) (fun i o hi ho => by
    have := hop.get (l.take n) 0 i o (by rw [List.getElem?_take, if_pos hi]; exact ho)
    rwa [Nat.zero_add] at this) hend n (Array.replicate l.toArray.size false) a0 w0.drew
    ⟨⟨by simp, fun j oj _ hl => (by rw [getD_replicate_false] at hl; cases hl), fun t _ ht => Go.getD_in (by simpa using ht) (getD_replicate_false _ _)⟩, ⟨rfl, rfl, fun _ _ => rfl⟩, (Below.refl _ _).drew, fun j d _ hl => (by rw [getD_replicate_false] at hl; cases hl)⟩
    (by
      have : ∀ k, cnt (Array.replicate l.toArray.size false) k ≤ k := by
        intro k
        induction k with
        | zero => exact Nat.le_refl _
        | succ k ih => simp only [cnt]; split <;> omega
      exact this n)
  have e : n + (l.drop n).length = l.toArray.size := by simp; omega
  rw [e] at H
  exact H
end
end Go.Ulp
set_option linter.unusedVariables false
set_option linter.unusedSimpArgs false
namespace Go.Ulp
open Go.RowKit
/-- a value that is the whole number x -/
def ZD (t : TypeId) (w : World) (x : Int) (v : Value) : Prop := ∃ ao cap, v = .agg #[.bool (zneg x), .slice ao (zl x).length cap] ∧ Nz t w ao cap (zl x)
theorem ZD.below {t : TypeId} {w w' : World} {x : Int} {v : Value} (h : ZD t w x v) (hb : Below w.heap.size w w') : ZD t w' x v := by
  obtain ⟨ao, cap, h1, h2⟩ := h; exact ⟨ao, cap, h1, h2.below hb⟩
def Fact.z (t : TypeId) (x : Int) : Fact := ⟨fun v w => ZD t w x v, fun _ _ _ h hb => h.below hb⟩
end Go.Ulp
set_option linter.unusedVariables false
set_option linter.unusedSimpArgs false
namespace Go.Ulp
open Go Go.RowKit
/-- a pointer to a block that has just been made -/
def Fresh (w : World) (v : Value) (w' : World) : Prop := ∃ g, v = .pointer (some ⟨g, 0, none⟩) ∧ w.heap.size ≤ g ∧ g < w'.heap.size
section
variable {P : Program} {ops : Array Oper} {md : Region.Mode}
/-- what is asked of an operation -/
def StepOKF (P : Program) (ops : Array Oper) (Fs : List Fact) (Al : List Nat) (C : World → Prop) (ds : List Tmp) (a0 : Act) (i : Nat) (o : Oper) : Prop :=
  ∀ (ρ : Operand → Value) (w : World) (R : Value → World → Prop), EnvOK ds a0 ρ → C w → (∀ j d, waitsB ops i j = true → dstOf ops j = some d → (fact Fs j).holds (ρ (.tmp d)) w) →
    (∀ v w', Below w.heap.size w w' → (fact Fs i).holds v w' → (Al.contains i = true → Fresh w v w') → R v w') →
    (guardOf ops o ρ = true → OpRun P o ρ w R) ∧ (guardOf ops o ρ = false → (fact Fs i).holds undef w ∧ (Al.contains i = true → Fresh w undef w))
theorem StepOKF.plain {Fs : List Fact} {Al : List Nat} {C : World → Prop} {ds : List Tmp} {a0 : Act} {i : Nat} {o : Oper} (hg : o.guard = none)
    (h : ∀ (ρ : Operand → Value) (w : World) (R : Value → World → Prop), EnvOK ds a0 ρ → C w → (∀ j d, waitsB ops i j = true → dstOf ops j = some d → (fact Fs j).holds (ρ (.tmp d)) w) →
      (∀ v w', Below w.heap.size w w' → (fact Fs i).holds v w' → (Al.contains i = true → Fresh w v w') → R v w') → OpRun P o ρ w R) : StepOKF P ops Fs Al C ds a0 i o :=
  fun ρ w R h1 h2 h3 h4 => ⟨fun _ => h ρ w R h1 h2 h3 h4, fun hf => by simp [guardOf, hg] at hf⟩
end
end Go.Ulp
set_option linter.unusedVariables false
set_option linter.unusedSimpArgs false
namespace Go.Ulp
open Go Go.RowKit
section
variable {P : Program} {ops : Array Oper} {md : Region.Mode}
end
end Go.Ulp

set_option linter.unusedVariables false
set_option linter.unusedSimpArgs false
namespace Go.Ulp
open Go.RowKit
/-- what holds between the rounds of the division: variables that stay, the quotient's digits so far, the remainder -/
def DF (tz ti : TypeId) (gS gQ gR m : Nat) (w1 : World) (l : List (Nat × Bool × Value)) (T : List Nat) (R : Int) (W : World) : Prop :=
  KV tz W l ∧ ZL tz W gQ false (.slice (some ⟨gS, 0, none⟩) m m) ∧ Own gS ti .i64 W (.slice (some ⟨gS, 0, none⟩) m m) T ∧ RV tz ti gS W gR R ∧ Below w1.heap.size w1 W
/-- the order in which the blocks were made -/
def DO (gS gQ gR : Nat) (w1 : World) (l : List (Nat × Bool × Value)) : Prop := (∀ e ∈ l, e.1 < gS) ∧ gS < gQ ∧ gQ < gR ∧ w1.heap.size ≤ gS
section
variable {tz ti : TypeId} {gS gQ gR m : Nat} {w1 : World} {l : List (Nat × Bool × Value)} {T : List Nat} {R : Int} {W W' : World}
theorem DF.below (h : DF tz ti gS gQ gR m w1 l T R W) (hb : Below W.heap.size W W') : DF tz ti gS gQ gR m w1 l T R W' := by
  obtain ⟨h1, h2, h3, h4, h5⟩ := h
  exact ⟨h1.below hb, h2.below hb, h3.kept hb, h4.below hb, below_trans h5 hb⟩
theorem DF.drew (h : DF tz ti gS gQ gR m w1 l T R W) : DF tz ti gS gQ gR m w1 l T R W.drew := h.below (Below.drew (Below.refl _ _))
theorem DF.drewN (h : DF tz ti gS gQ gR m w1 l T R W) (n : Nat) : DF tz ti gS gQ gR m w1 l T R (W.drewN n) := h.below (below_drewN (Below.refl _ _) n)
theorem DF.alloc (h : DF tz ti gS gQ gR m w1 l T R W) (o : Obj) : DF tz ti gS gQ gR m w1 l T R (W.alloc o) := h.below (below_alloc _ _)
theorem DF.set2 (ho : DO gS gQ gR w1 l) (hne : tz ≠ ti) (h : DF tz ti gS gQ gR m w1 l T R W) {b : Nat} (hs : ElemIs W b tz) (hb : gR < b) (u v : Value) : DF tz ti gS gQ gR m w1 l T R ((W.setCell ⟨b, 0, none⟩ u).setCell ⟨b, 1, none⟩ v) := by
  obtain ⟨h1, h2, h3, h4, h5⟩ := h
  obtain ⟨o1, o2, o3, o4⟩ := ho
  exact ⟨h1.far2 (fun e he => by have := o1 e he; omega) _ _, (h2.far _ _ (by simp; omega)).far _ _ (by simp; omega), (h3.far _ (by simp; omega) _).far _ (by simp; omega) _, h4.set2 hs hne (by omega) _ _, (h5.setCell (by simp; omega) _).setCell (by simp; omega) _⟩
/-- block g is a variable of type Z that holds x -/
def ZV (tz ti : TypeId) (w : World) (g : Nat) (x : Int) : Prop := ∃ ao cap, ZL tz w g (zneg x) (.slice ao (zl x).length cap) ∧ Nz ti w ao cap (zl x)
theorem RV.zv {f g : Nat} {x : Int} (h : RV tz ti f W g x) : ZV tz ti W g x := by obtain ⟨ao, cap, h1, h2, _⟩ := h; exact ⟨ao, cap, h1, h2⟩
theorem ZV.below {g : Nat} {x : Int} (h : ZV tz ti W g x) (hb : Below W.heap.size W W') : ZV tz ti W' g x := by obtain ⟨ao, cap, h1, h2⟩ := h; exact ⟨ao, cap, h1.below hb, h2.below hb⟩
theorem ZV.set2 {g b : Nat} {x : Int} (h : ZV tz ti W g x) (hs : ElemIs W b tz) (hne : tz ≠ ti) (hgb : g ≠ b) (u v : Value) : ZV tz ti ((W.setCell ⟨b, 0, none⟩ u).setCell ⟨b, 1, none⟩ v) g x := by
  obtain ⟨ao, cap, h1, h2⟩ := h
  exact ⟨ao, cap, (h1.far _ _ hgb).far _ _ hgb, (h2.setCell hs hne 0 u).setCell (hs.setCell _ _) hne 1 v⟩
theorem ZV.store {g : Nat} {n : Bool} {v : Value} {y : Int} {ao : Option Addr} {cap : Nat} (h : ZL tz W g n v) (hN : Nz ti W ao cap (zl y)) (hne : tz ≠ ti) : ZV tz ti ((W.setCell ⟨g, 0, none⟩ (.bool (zneg y))).setCell ⟨g, 1, none⟩ (.slice ao (zl y).length cap)) g y :=
  ⟨ao, cap, (h.set0 _).set1 _, (hN.setCell h.2.2.2.2 hne 0 _).setCell (h.2.2.2.2.setCell _ _) hne 1 _⟩
/-- what holds behind the rounds -/
def DG (tz ti : TypeId) (gS gQ gR : Nat) (w1 : World) (l : List (Nat × Bool × Value)) (q r : Int) (W : World) : Prop :=
  KV tz W l ∧ ZV tz ti W gQ q ∧ ZV tz ti W gR r ∧ Below w1.heap.size w1 W
theorem DG.below {q r : Int} (h : DG tz ti gS gQ gR w1 l q r W) (hb : Below W.heap.size W W') : DG tz ti gS gQ gR w1 l q r W' := by
  obtain ⟨h1, h2, h3, h4⟩ := h
  exact ⟨h1.below hb, h2.below hb, h3.below hb, below_trans h4 hb⟩
theorem DF.dg {y : Int} (ho : DO gS gQ gR w1 l) (hne : tz ≠ ti) (h : DF tz ti gS gQ gR m w1 l T R W) {ao : Option Addr} {cap : Nat} (hN : Nz ti W ao cap (zl y)) : DG tz ti gS gQ gR w1 l y R ((W.setCell ⟨gQ, 0, none⟩ (.bool (zneg y))).setCell ⟨gQ, 1, none⟩ (.slice ao (zl y).length cap)) := by
  obtain ⟨h1, h2, h3, h4, h5⟩ := h
  obtain ⟨o1, o2, o3, o4⟩ := ho
  exact ⟨h1.far2 (fun e he => by have := o1 e he; omega) _ _, ZV.store h2 hN hne, h4.zv.set2 h2.2.2.2.2 hne (by omega) _ _, (h5.setCell (by simp; omega) _).setCell (by simp; omega) _⟩
end
end Go.Ulp
namespace Go.Proofs.YtpgmchpdpgahfaaGreatDoor
open Go.RowKit Go.Ulp
set_option linter.unusedVariables false
set_option linter.unusedSimpArgs false
set_option maxHeartbeats 20000000
set_option maxRecDepth 100000
end Go.Proofs.YtpgmchpdpgahfaaGreatDoor
set_option linter.unusedVariables false
set_option linter.unusedSimpArgs false
namespace Go.Ulp
open Go.RowKit
end Go.Ulp
set_option linter.unusedVariables false
set_option linter.unusedSimpArgs false
namespace Go.Ulp
open Go.RowKit
def ZD2 (t : TypeId) (w : World) (x y : Int) (v : Value) : Prop :=
  ∃ ao cap bo cbp, v = .tuple #[.agg #[.bool (zneg x), .slice ao (zl x).length cap], .agg #[.bool (zneg y), .slice bo (zl y).length cbp]] ∧ Nz t w ao cap (zl x) ∧ Nz t w bo cbp (zl y)
def Fact.z2 (t : TypeId) (x y : Int) : Fact := ⟨fun v w => ZD2 t w x y v, fun _ _ _ h hb => by
  obtain ⟨ao, cap, bo, cbp, h1, h2, h3⟩ := h; exact ⟨ao, cap, bo, cbp, h1, h2.below hb, h3.below hb⟩⟩
def Fact.z0 (B : Nat) (t : TypeId) : Fact := ⟨fun v w => ∃ g, v = .pointer (some ⟨g, 0, none⟩) ∧ B ≤ g ∧ ZL t w g false (.slice none 0 0), fun _ _ _ h hb => by
  obtain ⟨g, h1, h2, h3⟩ := h; exact ⟨g, h1, h2, h3.below hb⟩⟩
end Go.Ulp
namespace Go.Proofs.YtpgmchpdpgahfaaGreatDoor
open Go.RowKit Go.Ulp
set_option linter.unusedVariables false
set_option linter.unusedSimpArgs false
set_option maxHeartbeats 4000000
set_option maxRecDepth 100000
end Go.Proofs.YtpgmchpdpgahfaaGreatDoor

set_option linter.unusedVariables false
set_option linter.unusedSimpArgs false
namespace Go.Ulp
open Go.RowKit
/-- a string of these bytes -/
def bsOf (L : List UInt8) : ByteArray := ⟨L.toArray⟩
theorem bs_size (L : List UInt8) : (bsOf L).size = L.length := by simp [bsOf, ByteArray.size]
theorem bs_list (L : List UInt8) : (bsOf L).data.toList = L := by simp [bsOf]
theorem bs_toList (L : List UInt8) : (bsOf L).toList = L := by unfold bsOf; exact ByteArray.toList_mk L
theorem bs_app (A B : List UInt8) : bsOf A ++ bsOf B = bsOf (A ++ B) := by
  apply ByteArray.ext
  simp [bsOf]
theorem ret_bs {A B : List UInt8} (h : A = B) : Ending.returned (.string (bsOf A)) = .returned (.string (bsOf B)) := by rw [h]
theorem add_bs {P : Program} (A B : List UInt8) (h : A.length + B.length ≤ 9223372036854775807) (w : World) : (Op.stringOp .add (bsOf A) (bsOf B)).run P w = .ok (.string (bsOf (A ++ B))) w := by
  rw [run_string_add_sum w _ _ (by rw [bs_size, bs_size]; exact h), bs_app]
def strSz (v : Value) : Nat := match v with | .string b => b.size | _ => 0
theorem strSz_bs (L : List UInt8) : strSz (.string (bsOf L)) = L.length := bs_size L
end Go.Ulp
namespace Go.Proofs.YtpgmchpdpgahfaaGreatDoor
open Go.RowKit Go.Ulp
set_option linter.unusedVariables false
set_option linter.unusedSimpArgs false
set_option maxHeartbeats 1000000
set_option maxRecDepth 100000
end Go.Proofs.YtpgmchpdpgahfaaGreatDoor

set_option linter.unusedVariables false
set_option linter.unusedSimpArgs false
namespace Go.Ulp
/-- exponent, fraction, class and rank of a number's bits -/
def expOf (x : Int) : Int := x / 4503599627370496 % 2048
def fracOf (x : Int) : Int := x % 4503599627370496
def negB (x : Int) : Bool := decide (9223372036854775808 ≤ x)
def classOf (x : Int) : Int := if expOf x = 2047 then (if 0 < fracOf x then 5 else 4) else if 0 < expOf x then 3 else if 0 < fracOf x then 2 else 1
def rankOf (x : Int) : Int := if 9223372036854775808 ≤ x then -(x % 9223372036854775808) else x % 9223372036854775808
def ranked (n : Int) : Int := if n < 0 then 9223372036854775808 + -n else n
def absOf (x : Int) : Int := x % 9223372036854775808
def hasVal (x : Int) : Bool := decide (x % 9223372036854775808 < 9218868437227405312)
theorem expOf_bd (x : Int) : 0 ≤ expOf x ∧ expOf x ≤ 2047 := by unfold expOf; omega
theorem fracOf_bd (x : Int) : 0 ≤ fracOf x ∧ fracOf x < 4503599627370496 := by unfold fracOf; omega
theorem class_bd (x : Int) : 1 ≤ classOf x ∧ classOf x ≤ 5 := by unfold classOf; omega
theorem class_nan (x : Int) (h0 : 0 ≤ x) (h1 : x < 18446744073709551616) : classOf x = 5 ↔ 9218868437227405312 < absOf x := by
  unfold classOf absOf; split
  · rename_i h; split
    · rename_i h2; unfold expOf at h; unfold fracOf at h2; simp; omega
    · rename_i h2; unfold expOf at h; unfold fracOf at h2; simp; omega
  · rename_i h; unfold expOf at h; constructor
    · intro h2; split at h2 <;> (try split at h2) <;> omega
    · intro h2; omega
theorem class_val (x : Int) (h0 : 0 ≤ x) (h1 : x < 18446744073709551616) : 4 ≤ classOf x ↔ 9218868437227405312 ≤ absOf x := by
  unfold classOf absOf; split
  · rename_i h; unfold expOf at h; constructor
    · intro _; omega
    · intro _; split <;> omega
  · rename_i h; unfold expOf at h; constructor
    · intro h2; split at h2 <;> (try split at h2) <;> omega
    · intro h2; omega
theorem rank_abs (x : Int) (h0 : 0 ≤ x) (h1 : x < 18446744073709551616) : rankOf x = if negB x then -absOf x else absOf x := by
  unfold rankOf negB absOf; split <;> rename_i h
  · rw [if_pos (by simpa using h)]
  · rw [if_neg (by simpa using h)]
end Go.Ulp
namespace Go.Proofs.YtpgmchpdpgahfaaGreatDoor
open Go.RowKit Go.Ulp
set_option maxHeartbeats 400000

theorem parts_any (x : Int) (h0 : 0 ≤ x) (h1 : x < 18446744073709551616) (w : World) :
    Calls Tryz.prog 14 #[.int .u64 x] w fun e w' => e = .returned (.tuple #[.bool (negB x), .int .i64 (expOf x), .int .u64 (fracOf x)]) ∧ w = w' := by
  have e1 := and_2047 (x / 4503599627370496) (by omega) (by omega)
  have e2 := and_frac x h0 h1
  have E1 := hid e1
  have E2 := hid e2
  clear e1 e2
  go_enter Tryz.func14, Tryz.ntmps14
  go_wp2_with fail
  go_ret3
  refine ⟨?_, rfl⟩
  simp only [Array.getD, E1.out, E2.out]
  have : (x / 9223372036854775808 == 1) = negB x := by unfold negB; rw [Bool.eq_iff_iff]; simp; omega
  simp [this, expOf, fracOf]
  rw [IntWalk.wrap64_in _ (by omega)]

theorem class_any (x : Int) (h0 : 0 ≤ x) (h1 : x < 18446744073709551616) (w : World) :
    Calls Tryz.prog 5 #[.int .u64 x] w fun e w' => e = .returned (.int .i64 (classOf x)) ∧ w = w' := by
  have b1 := expOf_bd x
  have b2 := fracOf_bd x
  by_cases c1 : expOf x = 0 <;> by_cases c2 : fracOf x = 0 <;> by_cases c3 : expOf x = 2047 <;> try omega
  all_goals
    have hc : classOf x = classOf x := rfl
    conv at hc => rhs; unfold classOf
    simp only [c1, c2, c3] at hc
    have HC := hid hc
    clear hc
    go_enter Tryz.func5, Tryz.ntmps5
    go_wp2_with (go_at_call 14; refine (parts_any x h0 h1 _).mono ?_; rintro e w' ⟨rfl, rfl⟩)
    go_ret
    refine ⟨ret_int ?_, rfl⟩
    rw [HC.out]
    simp
    try omega

theorem abs_any (x : Int) (h0 : 0 ≤ x) (h1 : x < 18446744073709551616) (w : World) :
    Calls Tryz.prog 41 #[.int .u64 x] w fun e w' => e = .returned (.int .u64 (absOf x)) ∧ w = w' := by
  have E := hid (andNot_sign x h0 h1)
  go_enter Tryz.func41, Tryz.ntmps41
  go_wp2_with fail
  go_ret
  exact ⟨ret_int E.out, rfl⟩

theorem hasValue_any (x : Int) (h0 : 0 ≤ x) (h1 : x < 18446744073709551616) (w : World) :
    Calls Tryz.prog 52 #[.int .u64 x] w fun e w' => e = .returned (.bool (hasVal x)) ∧ w = w' := by
  go_enter Tryz.func52, Tryz.ntmps52
  go_wp2_with (go_at_call 41; refine (abs_any x h0 h1 _).mono ?_; rintro e w' ⟨rfl, rfl⟩)
  go_ret
  exact ⟨ret_bool (by simp only [hasVal, absOf]; rfl), rfl⟩

theorem rank_num (x : Int) (h0 : 0 ≤ x) (h1 : x < 18446744073709551616) (hn : classOf x ≠ 5) (w : World) :
    Calls Tryz.prog 22 #[.int .u64 x] w fun e w' => e = .returned (.tuple #[.int .i64 (rankOf x), .int .i64 0]) ∧ w = w' := by
  have ha : 0 ≤ absOf x ∧ absOf x < 9223372036854775808 := by unfold absOf; omega
  by_cases c : 9223372036854775808 ≤ x
  all_goals
    have hr : rankOf x = rankOf x := rfl
    conv at hr => rhs; unfold rankOf
    have HR := hid hr
    clear hr
    go_enter Tryz.func22, Tryz.ntmps22
    go_wp2_with (first | (go_at_call 5; refine (class_any x h0 h1 _).mono ?_; rintro e w' ⟨rfl, rfl⟩) | (go_at_call 41; refine (abs_any x h0 h1 _).mono ?_; rintro e w' ⟨rfl, rfl⟩))
    go_ret2
    refine ⟨?_, rfl⟩
    rw [HR.out]
    first | rw [if_pos (by omega)] | rw [if_neg (by omega)]
    simp [Array.getD, absOf]

end Go.Proofs.YtpgmchpdpgahfaaGreatDoor
