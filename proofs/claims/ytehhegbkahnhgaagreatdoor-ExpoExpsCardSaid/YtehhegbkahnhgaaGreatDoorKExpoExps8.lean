/- ExpoExps: what the proof leans on, part 8 (RegL). -/
import Derived.StillTail
import Derived.WalkKit
import Derived.Test.YtehhegbkahnhgaaGreatDoorKExpoExps5
set_option linter.unusedVariables false
set_option linter.unusedSimpArgs false
namespace Go.Ulp
open Go Go.RowKit
structure Fact where
 holds:Value→World→Prop
 keep: ∀v w w',holds v w→Below w.heap.size w w'→holds v w'
def Fact.is (c:Value):Fact:=⟨fun v _=>v=c,fun _ _ _ h _=>h⟩
def Fact.any:Fact:=⟨fun _ _=>True,fun _ _ _ _ _=>trivial⟩
abbrev fact (Fs:List Fact) (i:Nat):Fact:=Fs.getD i Fact.any
def RetV (R:Value→World→Prop) (e:Ending) (w:World):Prop:= ∃v,e=.returned v∧R v w
def OpRun (P:Program) (o:Oper) (ρ:Operand→Value) (w:World) (R:Value→World→Prop):Prop:=
 match (execOp ρ o).run P w with
 | .ok (.value v) w'=>R v w'
 | .ok .skip w'=>R undef w'
 | .ok (.enter f args) w'=>Calls P f args w' (RetV R)
 |_=>False
theorem OpRun.wp {P:Program} {o:Oper} {a:Act} {w:World} {R:Value→World→Prop} {Q:Exit→Act→World→Prop} (h:OpRun P o a.eval w R):
 o.wp P a w (fun a' w'=> ∃v,a'=a.put o.dst v∧R v w') Q:=by
 unfold OpRun at h
 unfold Oper.wp
 generalize (execOp a.eval o).run P w=r at *
 cases r with
 |ok n w'=>
  cases n<;>simp only [Oper.upon] at h ⊢
  case value v=>exact ⟨v,rfl,h⟩
  case skip=>exact ⟨_,rfl,h⟩
  case enter f args=>
   refine Calls.mono h fun e w'' he=>?_
   obtain ⟨v,rfl,hr⟩:=he
   exact ⟨v,rfl,hr⟩
 |halt x w'=>exact h.elim
def guardOf (ops:Array Oper) (o:Oper) (ρ:Operand→Value):Bool:=
 match o.guard with
 |none=>true
 |some (j,want)=>match (ops[j]?).bind (·.dst) with
  |some d=>(match ρ (.tmp d) with| .bool b=>b==want|_=>false)
  |none=>false
theorem guardOf_eq (ops:Array Oper) (o:Oper) (a:Act):Region.wanted o (yielded ops a.tmps)=guardOf ops o a.eval:=by
 unfold Region.wanted guardOf
 cases hg:o.guard with
 |none=>rfl
 |some gw=>
  obtain ⟨j,want⟩:=gw
  simp only
  unfold yielded
  cases hd:(ops[j]?).bind (·.dst) with
  |none=>rfl
  |some d=>
   simp only [Option.bind_some,Act.eval,Array.getD_eq_getD_getElem?]
   cases ht:a.tmps[d]? with
   |none=>simp [undef]
   |some v=>cases v<;>simp
section
variable {P:Program} {ops:Array Oper} {md:Region.Mode}
def dstOf (ops:Array Oper) (i:Nat):Option Tmp:=(ops[i]?).bind (·.dst)
def putAll (a:Act):List Tmp→(Tmp→Value)→Act
 | [],_=>a
 |t::r,u=>putAll (a.put (some t) (u t)) r u
def cnt (listed:Array Bool):Nat→Nat
 |0=>0
 |k+1=>cnt listed k+(if listed.getD k false=true then 0 else 1)
theorem cnt_zero {listed:Array Bool} {n:Nat} (h:cnt listed n=0): ∀i,i<n→listed.getD i false=true:=by
 induction n with
 |zero=>intro i hi;omega
 |succ n ih=>
  intro i hi
  simp only [cnt] at h
  by_cases e:i=n
  ·subst e
   by_cases hh:listed.getD i false=true
   ·exact hh
   ·rw [if_neg hh] at h;omega
  ·exact ih (by omega) i (by omega)
theorem cnt_set_ge {listed:Array Bool} {n i:Nat} (h:n≤i):cnt (listed.setIfInBounds i true) n=cnt listed n:=by
 induction n with
 |zero=>rfl
 |succ n ih=>simp only [cnt];rw [ih (by omega),getD_set_ne false (by omega)]
theorem cnt_set {listed:Array Bool} {n i:Nat} (hi:i<n) (hs:i<listed.size) (hl:listed.getD i false=false):cnt (listed.setIfInBounds i true) n+1=cnt listed n:=by
 induction n with
 |zero=>omega
 |succ n ih=>
  simp only [cnt]
  by_cases e:i=n
  ·subst e
   have h1:(listed.setIfInBounds i true).getD i false=true:=by simp [hs]
   rw [cnt_set_ge (Nat.le_refl _),h1,hl];simp
  ·rw [getD_set_ne false e]
   have:=ih (by omega)
   omega
theorem wpAny_more {Q:Exit→Act→World→Prop}: ∀(f:Nat) (listed:Array Bool) (a:Act) (w:World),wpAny P md ops Q f listed a w→wpAny P md ops Q (f+1) listed a w
 |0,listed,a,w,h=>⟨fun _=>h.2,fun i hi=>by rw [h.1] at hi;cases hi⟩
 |f+1,listed,a,w,h=>⟨h.1,fun i hi=>wpOp_mono (fun a' w' h'=>wpAny_more f _ a' w' h') (h.2 i hi)⟩
theorem wpAny_more' {Q:Exit→Act→World→Prop} {f:Nat} {listed:Array Bool} {a:Act} {w:World} (h:wpAny P md ops Q f listed a w): ∀m,wpAny P md ops Q (m+f) listed a w
 |0=>by rw [Nat.zero_add];exact h
 |m+1=>by rw [show m+1+f=(m+f)+1 by omega];exact wpAny_more _ _ _ _ (wpAny_more' h m)
def firstN (n N:Nat):Array Bool:=((List.range N).map fun i=>decide (i<n)).toArray
def growB (ops:Array Oper) (n:Nat) (ds:List Tmp) (N:Nat):Bool:=
 ((List.range n).all fun i=>match dstOf ops i with|none=>true|some d=>ds.contains d&&decide (d<N))&&
 ((List.range n).all fun i=>(List.range n).all fun j=>decide (i=j)||(match dstOf ops i,dstOf ops j with|some d,some e=>decide (d≠e)|_,_=>true))&&
 ((List.range n).all fun i=>match ops[i]? with|none=>false|some o=>o.after.all fun e=>!Region.binds .any e||decide (e.on<i))&&
 (decide (n=ops.size)||(decide (n<ops.size)&&Region.sinkB .any ops n&&Region.chainB .any ops n))&&
 Region.seqB .any ops (ops.size-n) n (firstN n ops.size)
def Away (ds:List Tmp) (a0 a:Act):Prop:=a.tmps.size=a0.tmps.size∧a.defers=a0.defers∧ ∀t,t∉ds→a.tmps[t]? =a0.tmps[t]?
theorem Away.eval {ds:List Tmp} {a0 a:Act} (h:Away ds a0 a) (t:Tmp) (ht:ds.contains t=false):a.eval (.tmp t)=a0.eval (.tmp t):=by
 have:t∉ds:=by simpa using ht
 simp only [Act.eval,Array.getD_eq_getD_getElem?,h.2.2 t this]
theorem Away.put {ds:List Tmp} {a0 a:Act} (h:Away ds a0 a) (d:Option Tmp) (hd: ∀t,d=some t→t∈ds) (v:Value):Away ds a0 (a.put d v):=by
 cases d with
 |none=>exact h
 |some d=>
  refine ⟨by simp [Act.put,h.1],h.2.1,fun t ht=>?_⟩
  have hne:d≠t:=fun e=>ht (e▸hd d rfl)
  simp only [Act.put]
  rw [Array.getElem?_setIfInBounds_ne hne]
  exact h.2.2 t ht
theorem putAll_get (ds:List Tmp) (u:Tmp→Value): ∀(a:Act) (t:Tmp),(putAll a ds u).tmps[t]? =if t∈ds∧t<a.tmps.size then some (u t) else a.tmps[t]? :=by
 induction ds with
 |nil=>intro a t;simp [putAll]
 |cons d r ih=>
  intro a t
  rw [putAll,ih]
  have hs:(a.put (some d) (u d)).tmps.size=a.tmps.size:=by simp [Act.put]
  rw [hs]
  by_cases h1:t∈r∧t<a.tmps.size
  ·rw [if_pos h1,if_pos ⟨List.mem_cons_of_mem _ h1.1,h1.2⟩]
  ·rw [if_neg h1]
   by_cases h2:t=d
   ·subst h2
    by_cases h3:t<a.tmps.size
    ·rw [if_pos ⟨List.mem_cons_self,h3⟩];simp [Act.put,h3]
    ·rw [if_neg (fun h=>h3 h.2)];simp only [Act.put];rw [Array.getElem?_eq_none (by simpa using h3),Array.getElem?_eq_none (by simpa using h3)]
   ·rw [if_neg (fun h=>(by rcases List.mem_cons.1 h.1 with e|e;exact h2 e;exact h1 ⟨e,h.2⟩))]
    simp only [Act.put];rw [Array.getElem?_setIfInBounds_ne (Ne.symm h2)]
theorem putAll_size (ds:List Tmp) (u:Tmp→Value): ∀a:Act,(putAll a ds u).tmps.size=a.tmps.size∧(putAll a ds u).defers=a.defers:=by
 induction ds with
 |nil=>intro a;exact ⟨rfl,rfl⟩
 |cons d r ih=>intro a;rw [putAll];have:=ih (a.put (some d) (u d));exact ⟨by rw [this.1];simp [Act.put],by rw [this.2];rfl⟩
theorem Away.lit {ds:List Tmp} {a0 a:Act} (h:Away ds a0 a):a=putAll a0 ds (fun t=>a.eval (.tmp t)):=by
 obtain ⟨s1,s2⟩:=putAll_size ds (fun t=>a.eval (.tmp t)) a0
 have e1:a.tmps=(putAll a0 ds (fun t=>a.eval (.tmp t))).tmps:=by
  apply Array.ext_getElem?
  intro t
  rw [putAll_get]
  split
  ·rename_i ht
   have hlt:t<a.tmps.size:=by rw [h.1];exact ht.2
   simp [Act.eval,Array.getD_eq_getD_getElem?,hlt]
  ·rename_i ht
   by_cases hm:t∈ds
   ·have:a0.tmps.size≤t:=by
     rcases Nat.lt_or_ge t a0.tmps.size with h'|h'
     ·exact absurd ⟨hm,h'⟩ ht
     ·exact h'
    rw [Array.getElem?_eq_none (by rw [h.1];exact this),Array.getElem?_eq_none this]
   ·exact h.2.2 t hm
 cases a with
 |mk tm df=>
  cases hb:putAll a0 ds (fun t=>(Act.mk tm df).eval (.tmp t)) with
  |mk tm2 df2=>
   rw [hb] at e1 s2
   simp only at e1 s2
   have e2:=h.2.1
   simp only at e2
   rw [e1,e2,s2]
def AllOps (R:Nat→Oper→Prop):Nat→List Oper→Prop
 |_,[]=>True
 |k,o::r=>R k o∧AllOps R (k+1) r
theorem AllOps.get {R:Nat→Oper→Prop}: ∀(l:List Oper) (k:Nat),AllOps R k l→ ∀i o,l[i]? =some o→R (k+i) o
 | [],_,_,i,o,h=>by simp at h
 |x::r,k,h,i,o,hi=>by
  cases i with
  |zero=>simp at hi;subst hi;exact h.1
  |succ i=>have:=AllOps.get r (k+1) h.2 i o (by simpa using hi);rwa [show k+1+i=k+(i+1) by omega] at this
def waitsB (ops:Array Oper) (i j:Nat):Bool:=
 match ops.toList[i]? with
 |some o=>o.after.toList.any fun e=>Region.binds .any e&&Nat.beq e.on j
 |none=>false
theorem waitsB_spec {i j:Nat} (h:waitsB ops i j=true): ∃oi,ops[i]? =some oi∧ ∃e∈oi.after,Region.binds .any e=true∧e.on=j:=by
 unfold waitsB at h
 split at h
 ·rename_i o ho
  obtain ⟨e,he,hb⟩:=List.any_eq_true.1 h
  simp only [Bool.and_eq_true] at hb
  exact ⟨o,by simpa using ho,e,by simpa using he,hb.1,Nat.eq_of_beq_eq_true hb.2⟩
 ·cases h
structure EnvOK (ds:List Tmp) (a0:Act) (ρ:Operand→Value):Prop where
 tmp: ∀t,ds.contains t=false→ρ (.tmp t)=a0.eval (.tmp t)
 con: ∀v,ρ (.const v)=v
 fn: ∀f,ρ (.func f)=.func (.func f) #[] #[]
def StepOK (P:Program) (ops:Array Oper) (Fs:List Fact) (C:World→Prop) (ds:List Tmp) (a0:Act) (i:Nat) (o:Oper):Prop:=
 ∀(ρ:Operand→Value) (w:World) (R:Value→World→Prop),EnvOK ds a0 ρ→C w→(∀j d,waitsB ops i j=true→dstOf ops j=some d→(fact Fs j).holds (ρ (.tmp d)) w)→
  (∀v w',Below w.heap.size w w'→(fact Fs i).holds v w'→R v w')→
  (guardOf ops o ρ=true→OpRun P o ρ w R)∧(guardOf ops o ρ=false→(fact Fs i).holds undef w)
theorem StepOK.plain {Fs:List Fact} {C:World→Prop} {ds:List Tmp} {a0:Act} {i:Nat} {o:Oper} (hg:o.guard=none)
 (h: ∀(ρ:Operand→Value) (w:World) (R:Value→World→Prop),EnvOK ds a0 ρ→C w→(∀j d,waitsB ops i j=true→dstOf ops j=some d→(fact Fs j).holds (ρ (.tmp d)) w)→
  (∀v w',Below w.heap.size w w'→(fact Fs i).holds v w'→R v w')→OpRun P o ρ w R):StepOK P ops Fs C ds a0 i o:=
 fun ρ w R h1 h2 h3 h4=>⟨fun _=>h ρ w R h1 h2 h3 h4,fun hf=>by simp [guardOf,hg] at hf⟩
theorem oQ {Fs:List Fact} {C:World→Prop} {ds:List Tmp} {a0:Act} {i:Nat} {o:Oper} (hg:o.guard=none)
 (h: ∀(ρ:Operand→Value) (w:World) (R:Value→World→Prop),(∀v,ρ (.const v)=v)→(∀f,ρ (.func f)=.func (.func f) #[] #[])→EnvOK ds a0 ρ→C w→(∀j d,waitsB ops i j=true→dstOf ops j=some d→(fact Fs j).holds (ρ (.tmp d)) w)→
  (∀v w',Below w.heap.size w w'→(fact Fs i).holds v w'→R v w')→OpRun P o ρ w R):StepOK P ops Fs C ds a0 i o:=
 StepOK.plain hg fun ρ w R h1=>h ρ w R h1.con h1.fn h1
structure GInv (ops:Array Oper) (n:Nat) (Fs:List Fact) (C:World→Prop) (ds:List Tmp) (a0:Act) (listed:Array Bool) (a:Act) (w:World):Prop where
 head:HeadInv .any ops n listed
 away:Away ds a0 a
 con:C w
 facts: ∀j d,j<n→listed.getD j false=true→dstOf ops j=some d→(fact Fs j).holds (a.eval (.tmp d)) w
theorem eval_put_self (a:Act) (d:Tmp) (v:Value) (h:d<a.tmps.size):(a.put (some d) v).eval (.tmp d)=v:=by simp [Act.eval,Act.put,h]
theorem eval_put_other (a:Act) (d:Option Tmp) (t:Tmp) (v:Value) (h: ∀e,d=some e→e≠t):(a.put d v).eval (.tmp t)=a.eval (.tmp t):=by
 cases d with
 |none=>rfl
 |some d=>simp only [Act.eval,Act.put,Array.getD_eq_getD_getElem?];rw [Array.getElem?_setIfInBounds_ne (h d rfl)]
theorem firstN_of {listed:Array Bool} {n:Nat} (hs:listed.size=ops.size) (h1: ∀i,i<n→listed.getD i false=true) (h2: ∀t,n≤t→t<ops.size→listed.getD t true=false):listed=firstN n ops.size:=by
 apply Array.ext
 ·simp [firstN,hs]
 ·intro i hi hi'
  simp only [firstN,List.getElem_toArray,List.getElem_map,List.getElem_range]
  by_cases h:i<n
  ·have:=h1 i h;simp [hi] at this;rw [this,decide_eq_true h]
  ·have:=h2 i (by omega) (by omega);simp [hi] at this;rw [this,decide_eq_false h]
theorem grow_sound {Q:Exit→Act→World→Prop} {l:List Oper} {n:Nat} {Fs:List Fact} {C:World→Prop} {ds:List Tmp} {a0:Act} (hB:growB l.toArray n ds a0.tmps.size=true)
 (hCk: ∀w w',C w→Below w.heap.size w w'→C w')
 (hop: ∀i o,i<n→l[i]? =some o→StepOK P l.toArray Fs C ds a0 i o)
 (hend: ∀(u:Tmp→Value) w,C w→(∀j d,j<n→dstOf l.toArray j=some d→(fact Fs j).holds (u d) w)→wpList P l.toArray Q (l.drop n) (putAll a0 ds u) w):
 ∀(m:Nat) (listed:Array Bool) (a:Act) (w:World),GInv l.toArray n Fs C ds a0 listed a w→cnt listed n≤m→wpAny P .any l.toArray Q (m+(l.drop n).length) listed a w:=by
 simp only [growB,Bool.and_eq_true,Bool.or_eq_true,decide_eq_true_eq,List.all_eq_true,List.mem_range] at hB
 obtain ⟨⟨⟨⟨b1,b2⟩,b3⟩,b4⟩,b5⟩:=hB
 have hns:n≤l.toArray.size:=by rcases b4 with h|h;omega;omega
 have hlen:(l.drop n).length=l.toArray.size-n:=by simp
 have done: ∀listed a w,GInv l.toArray n Fs C ds a0 listed a w→cnt listed n=0→wpAny P .any l.toArray Q (l.drop n).length listed a w:=by
  intro listed a w inv hc
  have h1:=cnt_zero hc
  have e:=firstN_of (ops:=l.toArray) inv.head.size h1 inv.head.tail
  have hs:Region.seqB .any l.toArray (l.drop n).length n listed=true:=by rw [hlen,e];exact b5
  have ha:=inv.away.lit
  rw [ha]
  exact wpAny_of_seq (l.drop n) n listed _ w (fun j=>by simp [List.getElem?_drop]) hs (hend _ w inv.con (fun j d hj hd=>inv.facts j d hj (h1 j hj) hd))
 intro m
 induction m with
 |zero=>intro listed a w inv hc;rw [Nat.zero_add];exact done listed a w inv (by omega)
 |succ m ih=>
  intro listed a w inv hc
  by_cases h0:cnt listed n=0
  ·exact wpAny_more' (done listed a w inv h0) _
  ·-- some operation of the first n is not listed; the least of them is ready
   have hex: ∃i,i<n∧listed.getD i false=false:=by
    rcases Classical.em (∃i,i<n∧listed.getD i false=false) with h|h
    ·exact h
    ·exfalso;apply h0
     have hall: ∀i,i<n→listed.getD i false=true:=fun i hi=>by
      cases hh:listed.getD i false with
      |true=>rfl
      |false=>exact absurd ⟨i,hi,hh⟩ h
     have: ∀k,k≤n→cnt listed k=0:=by
      intro k
      induction k with
      |zero=>intro _;rfl
      |succ k ihk=>intro hk;simp only [cnt];rw [ihk (by omega),if_pos (hall k (by omega))]
     exact this n (Nat.le_refl _)
   have hmin: ∃i,i<n∧listed.getD i false=false∧ ∀j,j<i→listed.getD j false=true:=by
    obtain ⟨i,hi,hl⟩:=hex
    induction i using Nat.strongRecOn with
    |_ i ihi=>
     rcases Classical.em (∃j,j<i∧listed.getD j false=false) with ⟨j,hj,hjl⟩|h
     ·exact ihi j hj (by omega) hjl
     ·exact ⟨i,hi,hl,fun j hj=>by
       cases hh:listed.getD j false with
       |true=>rfl
       |false=>exact absurd ⟨j,hj,hh⟩ h⟩
   obtain ⟨i0,hi0,hl0,hbelow⟩:=hmin
   have hready0:i0∈Region.ready .any l.toArray listed:=by
    rw [mem_ready]
    refine ⟨Go.getD_in (by rw [inv.head.size];omega) hl0,?_⟩
    have:=b3 i0 hi0
    cases ho:l.toArray[i0]? with
    |none=>rw [ho] at this;cases this
    |some o=>
     rw [ho] at this
     refine ⟨o,rfl,fun e he hb=>?_⟩
     have h2:=Array.all_eq_true_iff_forall_mem.1 this e he
     rw [hb] at h2
     simp at h2
     exact hbelow _ h2
   have hun:listed.getD i0 true=false:=(mem_ready.1 hready0).1
   rw [show m+1+(l.drop n).length=(m+(l.drop n).length)+1 by omega]
   refine ⟨fun h=>(by rw [h] at hready0;cases hready0),fun i hi=>?_⟩
   obtain ⟨hiun,oi,hoi,hall⟩:=mem_ready.1 hi
   have his:i<l.toArray.size:=(Array.getElem?_eq_some_iff.1 hoi).1
   have hin:i<n:=by
    rcases Nat.lt_or_ge i n with h|h
    ·exact h
    ·rcases b4 with h4|⟨⟨h4,hs⟩,hc'⟩
     ·omega
     ·exact absurd hi (tail_waits hs hc' h4 inv.head _ i0 rfl hi0 hun i h)
   have hoil:l[i]? =some oi:=by simpa using hoi
   have hst:=fun R hR=>hop i oi hin hoil a.eval w R ⟨fun t ht=>inv.away.eval t ht,fun _=>rfl,fun _=>rfl⟩ inv.con (fun j d hw hd=>by
    obtain ⟨oj,hoj,e,he,hb,hon⟩:=waitsB_spec hw
    have e1:oj=oi:=Option.some.inj (hoj.symm.trans hoi)
    subst e1
    have h3:=hall e he hb
    rw [hon] at h3
    have hjn:j<n:=by
     have:=b3 i hin
     rw [hoi] at this
     have h2:=Array.all_eq_true_iff_forall_mem.1 this e he
     rw [hb] at h2
     simp at h2
     omega
    exact inv.facts j d hjn h3 hd) hR
   have hdsti:dstOf l.toArray i=oi.dst:=by unfold dstOf;rw [hoi];rfl
   have hdm: ∀t,oi.dst=some t→t∈ds∧t<a0.tmps.size:=by
    intro t ht
    have:=b1 i hin
    rw [hdsti,ht] at this
    simp only [Bool.and_eq_true,List.contains_iff_mem,decide_eq_true_eq] at this
    exact this
   have next: ∀v w',Below w.heap.size w w'→(fact Fs i).holds v w'→GInv l.toArray n Fs C ds a0 (listed.setIfInBounds i true) (a.put oi.dst v) w':=by
    intro v w' hb hv
    refine ⟨inv.head.set hi hin,inv.away.put _ (fun t ht=>(hdm t ht).1) v,hCk _ _ inv.con hb,fun j d hj hl hd=>?_⟩
    by_cases e:i=j
    ·subst e
     rw [hdsti] at hd
     rw [hd,eval_put_self _ _ _ (by rw [inv.away.1];exact (hdm d hd).2)]
     exact hv
    ·rw [getD_set_ne false e] at hl
     rw [eval_put_other]
     ·exact (fact Fs j).keep _ _ _ (inv.facts j d hj hl hd) hb
     ·intro d' hd' heq
      subst heq
      have:=b2 i hin j hj
      rcases this with h|h
      ·exact e h
      ·rw [hdsti,hd',hd] at h
       simp at h
   have hcn:cnt (listed.setIfInBounds i true) n≤m:=by
    have:=cnt_set hin (by rw [inv.head.size];exact his) (getD_both hiun)
    omega
   unfold wpOp
   rw [hoi]
   simp only
   rw [guardOf_eq]
   cases hg:guardOf l.toArray oi a.eval with
   |true=>
    simp only [if_true]
    left
    refine Oper.wp_mono ?_ (OpRun.wp ((hst (fun v w'=>Below w.heap.size w w'∧(fact Fs i).holds v w') (fun v w' hb hv=>⟨hb,hv⟩)).1 hg))
    rintro a' w' ⟨v,rfl,hb,hv⟩
    exact ih _ _ _ (next v w' hb hv) hcn
   |false=>
    simp only [Bool.false_eq_true,if_false]
    exact ih _ _ _ (next undef w (Below.refl _ _) ((hst (fun v w'=>True) (fun _ _ _ _=>trivial)).2 hg)) hcn
theorem wp_region_grow {id:Nat} {l:List Oper} {Q:Exit→Act→World→Prop} {a0:Act} {w0:World} (n:Nat) (ds:List Tmp) (Fs:List Fact)
 (hm:P.follows .mixedOrders=true) (hB:growB l.toArray n ds a0.tmps.size=true)
 (hop:AllOps (StepOK P l.toArray Fs (fun w=>Below w0.heap.size w0 w) ds a0) 0 (l.take n))
 (hend: ∀(u:Tmp→Value) w,Below w0.heap.size w0 w→(∀j d,j<n→dstOf l.toArray j=some d→(fact Fs j).holds (u d) w)→wpList P l.toArray Q (l.drop n) (putAll a0 ds u) w):
 (Code.region id l.toArray true).wp P Q a0 w0:=by
 have hns:n≤l.length:=by
  simp only [growB,Bool.and_eq_true,Bool.or_eq_true,decide_eq_true_eq] at hB
  obtain ⟨⟨_,b4⟩,_⟩:=hB
  have:l.toArray.size=l.length:=by simp
  rcases b4 with h|h
  ·omega
  ·omega
 refine wp_region_any hm ?_
 have H:=grow_sound (P:=P) (Q:=Q) (C:=fun w=>Below w0.heap.size w0 w) hB (fun w w' h k=>h.trans (k.mono h.size)) (fun i o hi ho=>by
  have:=hop.get (l.take n) 0 i o (by rw [List.getElem?_take,if_pos hi];exact ho)
  rwa [Nat.zero_add] at this) hend n (Array.replicate l.toArray.size false) a0 w0.drew
  ⟨⟨by simp,fun j oj _ hl=>(by rw [getD_replicate_false] at hl;cases hl),fun t _ ht=>Go.getD_in (by simpa using ht) (getD_replicate_false _ _)⟩,⟨rfl,rfl,fun _ _=>rfl⟩,(Below.refl _ _).drew,fun j d _ hl=>(by rw [getD_replicate_false] at hl;cases hl)⟩
  (by
   have: ∀k,cnt (Array.replicate l.toArray.size false) k≤k:=by
    intro k
    induction k with
    |zero=>exact Nat.le_refl _
    |succ k ih=>simp only [cnt];split<;>omega
   exact this n)
 have e:n+(l.drop n).length=l.toArray.size:=by simp;omega
 rw [e] at H
 exact H
end
open Go.RowKit
def ZD (t:TypeId) (w:World) (x:Int) (v:Value):Prop:= ∃ao cap,v=.agg #[.bool (zneg x),.slice ao (zl x).length cap]∧Nz t w ao cap (zl x)
theorem ZD.below {t:TypeId} {w w':World} {x:Int} {v:Value} (h:ZD t w x v) (hb:Below w.heap.size w w'):ZD t w' x v:=by
 obtain ⟨ao,cap,h1,h2⟩:=h;exact ⟨ao,cap,h1,h2.below hb⟩
def Fact.z (t:TypeId) (x:Int):Fact:=⟨fun v w=>ZD t w x v,fun _ _ _ h hb=>h.below hb⟩
def Fresh (w:World) (v:Value) (w':World):Prop:= ∃g,v=.pointer (some ⟨g,0,none⟩)∧w.heap.size≤g∧g<w'.heap.size
section
variable {P:Program} {ops:Array Oper} {md:Region.Mode}
def StepOKF (P:Program) (ops:Array Oper) (Fs:List Fact) (Al:List Nat) (C:World→Prop) (ds:List Tmp) (a0:Act) (i:Nat) (o:Oper):Prop:=
 ∀(ρ:Operand→Value) (w:World) (R:Value→World→Prop),EnvOK ds a0 ρ→C w→(∀j d,waitsB ops i j=true→dstOf ops j=some d→(fact Fs j).holds (ρ (.tmp d)) w)→
  (∀v w',Below w.heap.size w w'→(fact Fs i).holds v w'→(Al.contains i=true→Fresh w v w')→R v w')→
  (guardOf ops o ρ=true→OpRun P o ρ w R)∧(guardOf ops o ρ=false→(fact Fs i).holds undef w∧(Al.contains i=true→Fresh w undef w))
theorem StepOKF.plain {Fs:List Fact} {Al:List Nat} {C:World→Prop} {ds:List Tmp} {a0:Act} {i:Nat} {o:Oper} (hg:o.guard=none)
 (h: ∀(ρ:Operand→Value) (w:World) (R:Value→World→Prop),EnvOK ds a0 ρ→C w→(∀j d,waitsB ops i j=true→dstOf ops j=some d→(fact Fs j).holds (ρ (.tmp d)) w)→
  (∀v w',Below w.heap.size w w'→(fact Fs i).holds v w'→(Al.contains i=true→Fresh w v w')→R v w')→OpRun P o ρ w R):StepOKF P ops Fs Al C ds a0 i o:=
 fun ρ w R h1 h2 h3 h4=>⟨fun _=>h ρ w R h1 h2 h3 h4,fun hf=>by simp [guardOf,hg] at hf⟩
theorem oQF {Fs:List Fact} {Al:List Nat} {C:World→Prop} {ds:List Tmp} {a0:Act} {i:Nat} {o:Oper} (hg:o.guard=none)
 (h: ∀(ρ:Operand→Value) (w:World) (R:Value→World→Prop),(∀v,ρ (.const v)=v)→(∀f,ρ (.func f)=.func (.func f) #[] #[])→EnvOK ds a0 ρ→C w→(∀j d,waitsB ops i j=true→dstOf ops j=some d→(fact Fs j).holds (ρ (.tmp d)) w)→
  (∀v w',Below w.heap.size w w'→(fact Fs i).holds v w'→(Al.contains i=true→Fresh w v w')→R v w')→OpRun P o ρ w R):StepOKF P ops Fs Al C ds a0 i o:=
 StepOKF.plain hg fun ρ w R h1=>h ρ w R h1.con h1.fn h1
structure GInvF (ops:Array Oper) (n:Nat) (Fs:List Fact) (Al:List Nat) (C:World→Prop) (ds:List Tmp) (a0:Act) (listed:Array Bool) (a:Act) (w:World):Prop where
 head:HeadInv .any ops n listed
 away:Away ds a0 a
 con:C w
 facts: ∀j d,j<n→listed.getD j false=true→dstOf ops j=some d→(fact Fs j).holds (a.eval (.tmp d)) w
 lows: ∀j d,j<n→listed.getD j false=true→dstOf ops j=some d→Al.contains j=true→ ∃g,a.eval (.tmp d)=.pointer (some ⟨g,0,none⟩)∧g<w.heap.size
 apart: ∀i j d e,i<n→j<n→i≠j→listed.getD i false=true→listed.getD j false=true→dstOf ops i=some d→dstOf ops j=some e→Al.contains i=true→Al.contains j=true→a.eval (.tmp d)≠a.eval (.tmp e)
theorem grow_soundF {Q:Exit→Act→World→Prop} {l:List Oper} {n:Nat} {Fs:List Fact} {Al:List Nat} {C:World→Prop} {ds:List Tmp} {a0:Act} (hB:growB l.toArray n ds a0.tmps.size=true)
 (hCk: ∀w w',C w→Below w.heap.size w w'→C w')
 (hop: ∀i o,i<n→l[i]? =some o→StepOKF P l.toArray Fs Al C ds a0 i o)
 (hend: ∀(u:Tmp→Value) w,C w→(∀j d,j<n→dstOf l.toArray j=some d→(fact Fs j).holds (u d) w)→(∀i j d e,i<n→j<n→i≠j→dstOf l.toArray i=some d→dstOf l.toArray j=some e→Al.contains i=true→Al.contains j=true→u d≠u e)→wpList P l.toArray Q (l.drop n) (putAll a0 ds u) w):
 ∀(m:Nat) (listed:Array Bool) (a:Act) (w:World),GInvF l.toArray n Fs Al C ds a0 listed a w→cnt listed n≤m→wpAny P .any l.toArray Q (m+(l.drop n).length) listed a w:=by
 simp only [growB,Bool.and_eq_true,Bool.or_eq_true,decide_eq_true_eq,List.all_eq_true,List.mem_range] at hB
 obtain ⟨⟨⟨⟨b1,b2⟩,b3⟩,b4⟩,b5⟩:=hB
 have hns:n≤l.toArray.size:=by rcases b4 with h|h;omega;omega
 have hlen:(l.drop n).length=l.toArray.size-n:=by simp
 have done: ∀listed a w,GInvF l.toArray n Fs Al C ds a0 listed a w→cnt listed n=0→wpAny P .any l.toArray Q (l.drop n).length listed a w:=by
  intro listed a w inv hc
  have h1:=cnt_zero hc
  have e:=firstN_of (ops:=l.toArray) inv.head.size h1 inv.head.tail
  have hs:Region.seqB .any l.toArray (l.drop n).length n listed=true:=by rw [hlen,e];exact b5
  have ha:=inv.away.lit
  rw [ha]
  exact wpAny_of_seq (l.drop n) n listed _ w (fun j=>by simp [List.getElem?_drop]) hs (hend _ w inv.con (fun j d hj hd=>inv.facts j d hj (h1 j hj) hd) (fun i j d e hi hj hne hd he ai aj=>inv.apart i j d e hi hj hne (h1 i hi) (h1 j hj) hd he ai aj))
 intro m
 induction m with
 |zero=>intro listed a w inv hc;rw [Nat.zero_add];exact done listed a w inv (by omega)
 |succ m ih=>
  intro listed a w inv hc
  by_cases h0:cnt listed n=0
  ·exact wpAny_more' (done listed a w inv h0) _
  ·-- some operation of the first n is not listed; the least of them is ready
   have hex: ∃i,i<n∧listed.getD i false=false:=by
    rcases Classical.em (∃i,i<n∧listed.getD i false=false) with h|h
    ·exact h
    ·exfalso;apply h0
     have hall: ∀i,i<n→listed.getD i false=true:=fun i hi=>by
      cases hh:listed.getD i false with
      |true=>rfl
      |false=>exact absurd ⟨i,hi,hh⟩ h
     have: ∀k,k≤n→cnt listed k=0:=by
      intro k
      induction k with
      |zero=>intro _;rfl
      |succ k ihk=>intro hk;simp only [cnt];rw [ihk (by omega),if_pos (hall k (by omega))]
     exact this n (Nat.le_refl _)
   have hmin: ∃i,i<n∧listed.getD i false=false∧ ∀j,j<i→listed.getD j false=true:=by
    obtain ⟨i,hi,hl⟩:=hex
    induction i using Nat.strongRecOn with
    |_ i ihi=>
     rcases Classical.em (∃j,j<i∧listed.getD j false=false) with ⟨j,hj,hjl⟩|h
     ·exact ihi j hj (by omega) hjl
     ·exact ⟨i,hi,hl,fun j hj=>by
       cases hh:listed.getD j false with
       |true=>rfl
       |false=>exact absurd ⟨j,hj,hh⟩ h⟩
   obtain ⟨i0,hi0,hl0,hbelow⟩:=hmin
   have hready0:i0∈Region.ready .any l.toArray listed:=by
    rw [mem_ready]
    refine ⟨Go.getD_in (by rw [inv.head.size];omega) hl0,?_⟩
    have:=b3 i0 hi0
    cases ho:l.toArray[i0]? with
    |none=>rw [ho] at this;cases this
    |some o=>
     rw [ho] at this
     refine ⟨o,rfl,fun e he hb=>?_⟩
     have h2:=Array.all_eq_true_iff_forall_mem.1 this e he
     rw [hb] at h2
     simp at h2
     exact hbelow _ h2
   have hun:listed.getD i0 true=false:=(mem_ready.1 hready0).1
   rw [show m+1+(l.drop n).length=(m+(l.drop n).length)+1 by omega]
   refine ⟨fun h=>(by rw [h] at hready0;cases hready0),fun i hi=>?_⟩
   obtain ⟨hiun,oi,hoi,hall⟩:=mem_ready.1 hi
   have his:i<l.toArray.size:=(Array.getElem?_eq_some_iff.1 hoi).1
   have hin:i<n:=by
    rcases Nat.lt_or_ge i n with h|h
    ·exact h
    ·rcases b4 with h4|⟨⟨h4,hs⟩,hc'⟩
     ·omega
     ·exact absurd hi (tail_waits hs hc' h4 inv.head _ i0 rfl hi0 hun i h)
   have hoil:l[i]? =some oi:=by simpa using hoi
   have hst:=fun R hR=>hop i oi hin hoil a.eval w R ⟨fun t ht=>inv.away.eval t ht,fun _=>rfl,fun _=>rfl⟩ inv.con (fun j d hw hd=>by
    obtain ⟨oj,hoj,e,he,hb,hon⟩:=waitsB_spec hw
    have e1:oj=oi:=Option.some.inj (hoj.symm.trans hoi)
    subst e1
    have h3:=hall e he hb
    rw [hon] at h3
    have hjn:j<n:=by
     have:=b3 i hin
     rw [hoi] at this
     have h2:=Array.all_eq_true_iff_forall_mem.1 this e he
     rw [hb] at h2
     simp at h2
     omega
    exact inv.facts j d hjn h3 hd) hR
   have hdsti:dstOf l.toArray i=oi.dst:=by unfold dstOf;rw [hoi];rfl
   have hdm: ∀t,oi.dst=some t→t∈ds∧t<a0.tmps.size:=by
    intro t ht
    have:=b1 i hin
    rw [hdsti,ht] at this
    simp only [Bool.and_eq_true,List.contains_iff_mem,decide_eq_true_eq] at this
    exact this
   have next: ∀v w',Below w.heap.size w w'→(fact Fs i).holds v w'→(Al.contains i=true→Fresh w v w')→GInvF l.toArray n Fs Al C ds a0 (listed.setIfInBounds i true) (a.put oi.dst v) w':=by
    intro v w' hb hv hfr
    have self: ∀d,dstOf l.toArray i=some d→(a.put oi.dst v).eval (.tmp d)=v:=by
     intro d hd
     rw [hdsti] at hd
     rw [hd,eval_put_self _ _ _ (by rw [inv.away.1];exact (hdm d hd).2)]
    have other: ∀j d,j<n→i≠j→dstOf l.toArray j=some d→(a.put oi.dst v).eval (.tmp d)=a.eval (.tmp d):=by
     intro j d hj e hd
     rw [eval_put_other]
     intro d' hd' heq
     subst heq
     have:=b2 i hin j hj
     rcases this with h|h
     ·exact e h
     ·rw [hdsti,hd',hd] at h
      simp at h
    refine ⟨inv.head.set hi hin,inv.away.put _ (fun t ht=>(hdm t ht).1) v,hCk _ _ inv.con hb,fun j d hj hl hd=>?_,fun j d hj hl hd ha=>?_,fun j k d e hj hk hne hlj hlk hd he aj ak=>?_⟩
    ·by_cases e:i=j
     ·subst e
      rw [self d hd];exact hv
     ·rw [getD_set_ne false e] at hl
      rw [other j d hj e hd]
      exact (fact Fs j).keep _ _ _ (inv.facts j d hj hl hd) hb
    ·by_cases e:i=j
     ·subst e
      rw [self d hd]
      obtain ⟨g,h1,h2,h3⟩:=hfr ha
      exact ⟨g,h1,h3⟩
     ·rw [getD_set_ne false e] at hl
      rw [other j d hj e hd]
      obtain ⟨g,h1,h2⟩:=inv.lows j d hj hl hd ha
      exact ⟨g,h1,Nat.lt_of_lt_of_le h2 hb.size⟩
    ·by_cases e1:i=j
     ·subst e1
      have e2:i≠k:=hne
      rw [getD_set_ne false e2] at hlk
      rw [self d hd,other k e hk e2 he]
      obtain ⟨g,h1,h2,h3⟩:=hfr aj
      obtain ⟨g',h1',h2'⟩:=inv.lows k e hk hlk he ak
      rw [h1,h1']
      intro hc
      simp at hc<;>omega
     ·rw [getD_set_ne false e1] at hlj
      by_cases e2:i=k
      ·subst e2
       rw [self e he,other j d hj e1 hd]
       obtain ⟨g,h1,h2,h3⟩:=hfr ak
       obtain ⟨g',h1',h2'⟩:=inv.lows j d hj hlj hd aj
       rw [h1,h1']
       intro hc
       simp at hc<;>omega
      ·rw [getD_set_ne false e2] at hlk
       rw [other j d hj e1 hd,other k e hk e2 he]
       exact inv.apart j k d e hj hk hne hlj hlk hd he aj ak
   have hcn:cnt (listed.setIfInBounds i true) n≤m:=by
    have:=cnt_set hin (by rw [inv.head.size];exact his) (getD_both hiun)
    omega
   unfold wpOp
   rw [hoi]
   simp only
   rw [guardOf_eq]
   cases hg:guardOf l.toArray oi a.eval with
   |true=>
    simp only [if_true]
    left
    refine Oper.wp_mono ?_ (OpRun.wp ((hst (fun v w'=>Below w.heap.size w w'∧(fact Fs i).holds v w'∧(Al.contains i=true→Fresh w v w')) (fun v w' hb hv hfr=>⟨hb,hv,hfr⟩)).1 hg))
    rintro a' w' ⟨v,rfl,hb,hv,hfr⟩
    exact ih _ _ _ (next v w' hb hv hfr) hcn
   |false=>
    simp only [Bool.false_eq_true,if_false]
    exact ih _ _ _ (next undef w (Below.refl _ _) ((hst (fun v w'=>True) (fun _ _ _ _ _=>trivial)).2 hg).1 ((hst (fun v w'=>True) (fun _ _ _ _ _=>trivial)).2 hg).2) hcn
theorem wp_region_growF {id:Nat} {l:List Oper} {Q:Exit→Act→World→Prop} {a0:Act} {w0:World} (n:Nat) (ds:List Tmp) (Fs:List Fact) (Al:List Nat)
 (hm:P.follows .mixedOrders=true) (hB:growB l.toArray n ds a0.tmps.size=true)
 (hop:AllOps (StepOKF P l.toArray Fs Al (fun w=>Below w0.heap.size w0 w) ds a0) 0 (l.take n))
 (hend: ∀(u:Tmp→Value) w,Below w0.heap.size w0 w→(∀j d,j<n→dstOf l.toArray j=some d→(fact Fs j).holds (u d) w)→(∀i j d e,i<n→j<n→i≠j→dstOf l.toArray i=some d→dstOf l.toArray j=some e→Al.contains i=true→Al.contains j=true→u d≠u e)→wpList P l.toArray Q (l.drop n) (putAll a0 ds u) w):
 (Code.region id l.toArray true).wp P Q a0 w0:=by
 have hns:n≤l.length:=by
  simp only [growB,Bool.and_eq_true,Bool.or_eq_true,decide_eq_true_eq] at hB
  obtain ⟨⟨_,b4⟩,_⟩:=hB
  have:l.toArray.size=l.length:=by simp
  rcases b4 with h|h
  ·omega
  ·omega
 refine wp_region_any hm ?_
 have H:=grow_soundF (P:=P) (Q:=Q) (C:=fun w=>Below w0.heap.size w0 w) hB (fun w w' h k=>h.trans (k.mono h.size)) (fun i o hi ho=>by
  have:=hop.get (l.take n) 0 i o (by rw [List.getElem?_take,if_pos hi];exact ho)
  rwa [Nat.zero_add] at this) hend n (Array.replicate l.toArray.size false) a0 w0.drew
  ⟨⟨by simp,fun j oj _ hl=>(by rw [getD_replicate_false] at hl;cases hl),fun t _ ht=>Go.getD_in (by simpa using ht) (getD_replicate_false _ _)⟩,⟨rfl,rfl,fun _ _=>rfl⟩,(Below.refl _ _).drew,fun j d _ hl=>(by rw [getD_replicate_false] at hl;cases hl),fun j d _ hl=>(by rw [getD_replicate_false] at hl;cases hl),fun j k d e _ _ _ hl=>(by rw [getD_replicate_false] at hl;cases hl)⟩
  (by
   have: ∀k,cnt (Array.replicate l.toArray.size false) k≤k:=by
    intro k
    induction k with
    |zero=>exact Nat.le_refl _
    |succ k ih=>simp only [cnt];split<;>omega
   exact this n)
 have e:n+(l.drop n).length=l.toArray.size:=by simp;omega
 rw [e] at H
 exact H
end
section
variable {P:Program} {ops:Array Oper} {md:Region.Mode}
def sinkL (ops:Array Oper) (n p:Nat):Bool:=
 (List.range n).all fun i=>decide (i=p)||(List.range (n+1)).any fun j=>decide (i<j)&&decide (j≠p)&&Region.waitsFor .any ops j i
def firstL (n p N:Nat):Array Bool:=((List.range N).map fun i=>decide (i<n)&&decide (i≠p)).toArray
def growBL (ops:Array Oper) (n p:Nat) (ds:List Tmp) (N:Nat):Bool:=
 ((List.range n).all fun i=>match dstOf ops i with|none=>true|some d=>ds.contains d&&decide (d<N))&&
 ((List.range n).all fun i=>(List.range n).all fun j=>decide (i=j)||(match dstOf ops i,dstOf ops j with|some d,some e=>decide (d≠e)|_,_=>true))&&
 ((List.range n).all fun i=>match ops[i]? with|none=>false|some o=>o.after.all fun e=>!Region.binds .any e||decide (e.on<i))&&
 (decide (n<ops.size)&&sinkL ops n p&&Region.chainB .any ops n)&&
 Region.seqB .any ops (ops.size-n) n (firstN n ops.size)&&(Region.noSelect ops&&Region.free .any ops (firstL n p ops.size) p&&decide (p<n))
theorem tail_waitsL {n p:Nat} {listed:Array Bool} (hs:sinkL ops n p=true) (hc:Region.chainB .any ops n=true) (hn:n<ops.size) (inv:HeadInv .any ops n listed):
 ∀(d i:Nat),n-i=d→i<n→i≠p→listed.getD i true=false→ ∀t,n≤t→t∉Region.ready .any ops listed:=by
 intro d
 induction d using Nat.strongRecOn with
 |_ d ih=>
  intro i hd hi hip hun t ht hr
  obtain ⟨_,ot,hot,hall⟩:=mem_ready.1 hr
  have htlt:t<ops.size:=(Array.getElem?_eq_some_iff.1 hot).1
  by_cases htn:t=n
  ·subst htn
   have h1:=List.all_eq_true.1 hs i (List.mem_range.2 hi)
   simp only [Bool.or_eq_true,decide_eq_true_eq] at h1
   rcases h1 with h1|h1
   ·exact hip h1
   obtain ⟨j,hj,hj2⟩:=List.any_eq_true.1 h1
   simp only [Bool.and_eq_true,decide_eq_true_eq] at hj2
   obtain ⟨oj,hoj,e,he,hb,hon⟩:=Region.waitsFor_spec hj2.2
   have hjle:j≤t:=by have:=List.mem_range.1 hj;omega
   by_cases hjt:j=t
   ·subst hjt
    have:oj=ot:=Option.some.inj (hoj.symm.trans hot)
    subst this
    have h2:=hall e he hb
    rw [hon,getD_both hun] at h2
    cases h2
   ·cases hl:listed.getD j false with
    |true=>
     have h2:=inv.closed j oj hoj hl e he hb
     rw [hon,getD_both hun] at h2
     cases h2
    |false=>
     have hjs:j<listed.size:=by rw [inv.size];omega
     exact ih (t-j) (by omega) j rfl (by omega) hj2.1.2 (Go.getD_in hjs hl) t (Nat.le_refl _) hr
  ·have h1:=List.all_eq_true.1 hc t (List.mem_range.2 htlt)
   simp only [Bool.or_eq_true,decide_eq_true_eq] at h1
   rcases h1 with h1|h1
   ·omega
   ·obtain ⟨o',ho',e,he,hb,hon⟩:=Region.waitsFor_spec h1
    have:o'=ot:=Option.some.inj (ho'.symm.trans hot)
    subst this
    have h2:=hall e he hb
    rw [hon,getD_both (inv.tail (t-1) (by omega) (by omega))] at h2
    cases h2
theorem firstL_of {listed:Array Bool} {n p:Nat} (hs:listed.size=ops.size) (h1: ∀i,i<n→i≠p→listed.getD i false=true) (hp:listed.getD p false=false) (h2: ∀t,n≤t→t<ops.size→listed.getD t true=false):listed=firstL n p ops.size:=by
 apply Array.ext
 ·simp [firstL,hs]
 ·intro i hi hi'
  simp only [firstL,List.getElem_toArray,List.getElem_map,List.getElem_range]
  by_cases h:i<n
  ·by_cases e:i=p
   ·subst e;simp [hi] at hp;rw [hp];simp
   ·have:=h1 i h e;simp [hi] at this;rw [this];simp [h,e]
  ·have:=h2 i (by omega) (by omega);simp [hi] at this;rw [this];simp [h]
def Late (P:Program) (ops:Array Oper) (Fs:List Fact) (C:World→Prop) (ds:List Tmp) (a0:Act) (p:Nat) (o:Oper):Prop:=
 o.guard=none∧ ∀(ρ:Operand→Value) (w:World),EnvOK ds a0 ρ→C w→(∀j d,waitsB ops p j=true→dstOf ops j=some d→(fact Fs j).holds (ρ (.tmp d)) w)→
  ∃v,(∀w',(execOp ρ o).run P w'=.ok (.value v) w')∧(fact Fs p).holds v w
theorem grow_soundL {Q:Exit→Act→World→Prop} {l:List Oper} {n p:Nat} {Fs:List Fact} {Al:List Nat} {C:World→Prop} {ds:List Tmp} {a0:Act} (hB:growBL l.toArray n p ds a0.tmps.size=true)
 (hCk: ∀w w',C w→Below w.heap.size w w'→C w')
 (hop: ∀i o,i<n→l[i]? =some o→StepOKF P l.toArray Fs Al C ds a0 i o)
 (hAl:Al.contains p=false)
 (hQ: ∀d v c (a:Act) w,Q (.panic c) (a.put d v) w→Q (.panic c) a w)
 (hlate: ∀o,l[p]? =some o→Late P l.toArray Fs C ds a0 p o)
 (hend: ∀(u:Tmp→Value) w,C w→(∀j d,j<n→dstOf l.toArray j=some d→(fact Fs j).holds (u d) w)→(∀i j d e,i<n→j<n→i≠j→dstOf l.toArray i=some d→dstOf l.toArray j=some e→Al.contains i=true→Al.contains j=true→u d≠u e)→wpList P l.toArray Q (l.drop n) (putAll a0 ds u) w):
 ∀(m:Nat) (listed:Array Bool) (a:Act) (w:World),GInvF l.toArray n Fs Al C ds a0 listed a w→cnt listed n≤m→wpAny P .any l.toArray Q (m+(l.drop n).length) listed a w:=by
 simp only [growBL,Bool.and_eq_true,Bool.or_eq_true,decide_eq_true_eq,List.all_eq_true,List.mem_range] at hB
 obtain ⟨⟨⟨⟨⟨b1,b2⟩,b3⟩,⟨b40,b41⟩,b42⟩,b5⟩,⟨b6,b7⟩,b8⟩:=hB
 have hns:n≤l.toArray.size:=by omega
 have hlen:(l.drop n).length=l.toArray.size-n:=by simp
 have done: ∀listed a w,GInvF l.toArray n Fs Al C ds a0 listed a w→cnt listed n=0→wpAny P .any l.toArray Q (l.drop n).length listed a w:=by
  intro listed a w inv hc
  have h1:=cnt_zero hc
  have e:=firstN_of (ops:=l.toArray) inv.head.size h1 inv.head.tail
  have hs:Region.seqB .any l.toArray (l.drop n).length n listed=true:=by rw [hlen,e];exact b5
  have ha:=inv.away.lit
  rw [ha]
  exact wpAny_of_seq (l.drop n) n listed _ w (fun j=>by simp [List.getElem?_drop]) hs (hend _ w inv.con (fun j d hj hd=>inv.facts j d hj (h1 j hj) hd) (fun i j d e hi hj hne hd he ai aj=>inv.apart i j d e hi hj hne (h1 i hi) (h1 j hj) hd he ai aj))
 intro m
 induction m with
 |zero=>intro listed a w inv hc;rw [Nat.zero_add];exact done listed a w inv (by omega)
 |succ m ih=>
  intro listed a w inv hc
  by_cases h0:cnt listed n=0
  ·exact wpAny_more' (done listed a w inv h0) _
  ·rcases Classical.em (∀i,i<n→i≠p→listed.getD i false=true) with hallp|hsome
   ·-- p alone is left: it is taken first
    have hpu:listed.getD p false=false:=by
     cases hh:listed.getD p false with
     |false=>rfl
     |true=>
      exfalso;apply h0
      have: ∀k,k≤n→cnt listed k=0:=by
       intro k
       induction k with
       |zero=>intro _;rfl
       |succ k ihk=>
        intro hk
        have hk1:listed.getD k false=true:=by
         by_cases e:k=p
         ·subst e;exact hh
         ·exact hallp k (by omega) e
        simp only [cnt];rw [ihk (by omega),if_pos hk1]
      exact this n (Nat.le_refl _)
    have hps:p<l.toArray.size:=by omega
    obtain ⟨op,hopa⟩: ∃o,l.toArray[p]? =some o:=⟨l.toArray[p]'hps,Array.getElem?_eq_getElem hps⟩
    have hop':l[p]? =some op:=by simpa using hopa
    have elst:=firstL_of (ops:=l.toArray) inv.head.size hallp hpu inv.head.tail
    have hready:p∈Region.ready .any l.toArray listed:=by
     rw [mem_ready]
     refine ⟨Go.getD_in (by rw [inv.head.size];exact hps) hpu,op,hopa,fun e he hb=>?_⟩
     have h1:=b3 p b8
     rw [hopa] at h1
     have h2:=Array.all_eq_true_iff_forall_mem.1 h1 e he
     rw [hb] at h2
     simp at h2
     exact hallp _ (by omega) (by omega)
    have hfacts: ∀j d,waitsB l.toArray p j=true→dstOf l.toArray j=some d→(fact Fs j).holds (a.eval (.tmp d)) w:=by
     intro j d hw hd
     obtain ⟨oj,hoj,e,he,hb,hon⟩:=waitsB_spec hw
     have e1:oj=op:=Option.some.inj (hoj.symm.trans hopa)
     subst e1
     have h1:=b3 p b8
     rw [hopa] at h1
     have h2:=Array.all_eq_true_iff_forall_mem.1 h1 e he
     rw [hb] at h2
     simp at h2
     exact inv.facts j d (by omega) (hallp _ (by omega) (by omega)) hd
    obtain ⟨hgd,hL⟩:=hlate op hop'
    obtain ⟨v,hv1,hv2⟩:=hL a.eval w ⟨fun t ht=>inv.away.eval t ht,fun _=>rfl,fun _=>rfl⟩ inv.con hfacts
    have hdsti:dstOf l.toArray p=op.dst:=by unfold dstOf;rw [hopa];rfl
    have hdm: ∀t,op.dst=some t→t∈ds∧t<a0.tmps.size:=by
     intro t ht
     have:=b1 p b8
     rw [hdsti,ht] at this
     simp only [Bool.and_eq_true,List.contains_iff_mem,decide_eq_true_eq] at this
     exact this
    have self: ∀d,dstOf l.toArray p=some d→(a.put op.dst v).eval (.tmp d)=v:=by
     intro d hd
     rw [hdsti] at hd
     rw [hd,eval_put_self _ _ _ (by rw [inv.away.1];exact (hdm d hd).2)]
    have other: ∀j d,j<n→p≠j→dstOf l.toArray j=some d→(a.put op.dst v).eval (.tmp d)=a.eval (.tmp d):=by
     intro j d hj e hd
     rw [eval_put_other]
     intro d' hd' heq
     subst heq
     have:=b2 p b8 j hj
     rcases this with h|h
     ·exact e h
     ·rw [hdsti,hd',hd] at h
      simp at h
    have nalp: ∀j,Al.contains j=true→p≠j:=fun j hj e=>by subst e;rw [hAl] at hj;cases hj
    have inv':GInvF l.toArray n Fs Al C ds a0 (listed.setIfInBounds p true) (a.put op.dst v) w:=by
     refine ⟨inv.head.set hready b8,inv.away.put _ (fun t ht=>(hdm t ht).1) v,inv.con,fun j d hj hl hd=>?_,fun j d hj hl hd ha=>?_,fun j k d e hj hk hne hlj hlk hd he aj ak=>?_⟩
     ·by_cases e:p=j
      ·subst e;rw [self d hd];exact hv2
      ·rw [getD_set_ne false e] at hl
       rw [other j d hj e hd]
       exact inv.facts j d hj hl hd
     ·have e:=nalp j ha
      rw [getD_set_ne false e] at hl
      rw [other j d hj e hd]
      exact inv.lows j d hj hl hd ha
     ·have e1:=nalp j aj
      have e2:=nalp k ak
      rw [getD_set_ne false e1] at hlj
      rw [getD_set_ne false e2] at hlk
      rw [other j d hj e1 hd,other k e hk e2 he]
      exact inv.apart j k d e hj hk hne hlj hlk hd he aj ak
    have hcn:cnt (listed.setIfInBounds p true) n=0:=by
     have: ∀k,k≤n→cnt (listed.setIfInBounds p true) k=0:=by
      intro k
      induction k with
      |zero=>intro _;rfl
      |succ k ihk=>
       intro hk
       have hk1:(listed.setIfInBounds p true).getD k false=true:=by
        by_cases e:p=k
        ·subst e;simp [show p<listed.size by rw [inv.head.size];exact hps]
        ·exact getD_set_true (hallp k (by omega) (Ne.symm e))
       simp only [cnt]
       rw [ihk (by omega),if_pos hk1]
     exact this n (Nat.le_refl _)
    rw [show m+1+(l.drop n).length=(m+(l.drop n).length)+1 by omega]
    refine wpAny_first hopa (Region.noSelect_spec b6) (hQ op.dst v) _ listed a w (Region.free_spec hopa (by rw [elst];exact b7)) hready (Or.inl ⟨by simp [Region.wanted,hgd],hv1⟩) ?_
    exact wpAny_more' (done _ _ w inv' hcn) m
   have hother: ∃i,i<n∧i≠p∧listed.getD i false=false:=by
    rcases Classical.em (∃i,i<n∧i≠p∧listed.getD i false=false) with h|h
    ·exact h
    ·exfalso;apply hsome
     intro i hi hip
     cases hh:listed.getD i false with
     |true=>rfl
     |false=>exact absurd ⟨i,hi,hip,hh⟩ h
   have hex: ∃i,i<n∧listed.getD i false=false:=by
    rcases Classical.em (∃i,i<n∧listed.getD i false=false) with h|h
    ·exact h
    ·exfalso;apply h0
     have hall: ∀i,i<n→listed.getD i false=true:=fun i hi=>by
      cases hh:listed.getD i false with
      |true=>rfl
      |false=>exact absurd ⟨i,hi,hh⟩ h
     have: ∀k,k≤n→cnt listed k=0:=by
      intro k
      induction k with
      |zero=>intro _;rfl
      |succ k ihk=>intro hk;simp only [cnt];rw [ihk (by omega),if_pos (hall k (by omega))]
     exact this n (Nat.le_refl _)
   have hmin: ∃i,i<n∧listed.getD i false=false∧ ∀j,j<i→listed.getD j false=true:=by
    obtain ⟨i,hi,hl⟩:=hex
    induction i using Nat.strongRecOn with
    |_ i ihi=>
     rcases Classical.em (∃j,j<i∧listed.getD j false=false) with ⟨j,hj,hjl⟩|h
     ·exact ihi j hj (by omega) hjl
     ·exact ⟨i,hi,hl,fun j hj=>by
       cases hh:listed.getD j false with
       |true=>rfl
       |false=>exact absurd ⟨j,hj,hh⟩ h⟩
   obtain ⟨i0,hi0,hl0,hbelow⟩:=hmin
   have hready0:i0∈Region.ready .any l.toArray listed:=by
    rw [mem_ready]
    refine ⟨Go.getD_in (by rw [inv.head.size];omega) hl0,?_⟩
    have:=b3 i0 hi0
    cases ho:l.toArray[i0]? with
    |none=>rw [ho] at this;cases this
    |some o=>
     rw [ho] at this
     refine ⟨o,rfl,fun e he hb=>?_⟩
     have h2:=Array.all_eq_true_iff_forall_mem.1 this e he
     rw [hb] at h2
     simp at h2
     exact hbelow _ h2
   have hun:listed.getD i0 true=false:=(mem_ready.1 hready0).1
   rw [show m+1+(l.drop n).length=(m+(l.drop n).length)+1 by omega]
   refine ⟨fun h=>(by rw [h] at hready0;cases hready0),fun i hi=>?_⟩
   obtain ⟨hiun,oi,hoi,hall⟩:=mem_ready.1 hi
   have his:i<l.toArray.size:=(Array.getElem?_eq_some_iff.1 hoi).1
   have hin:i<n:=by
    rcases Nat.lt_or_ge i n with h|h
    ·exact h
    ·obtain ⟨i1,hi1,hip1,hl1⟩:=hother
     exact absurd hi (tail_waitsL b41 b42 b40 inv.head _ i1 rfl hi1 hip1 (Go.getD_in (by rw [inv.head.size];omega) hl1) i h)
   have hoil:l[i]? =some oi:=by simpa using hoi
   have hst:=fun R hR=>hop i oi hin hoil a.eval w R ⟨fun t ht=>inv.away.eval t ht,fun _=>rfl,fun _=>rfl⟩ inv.con (fun j d hw hd=>by
    obtain ⟨oj,hoj,e,he,hb,hon⟩:=waitsB_spec hw
    have e1:oj=oi:=Option.some.inj (hoj.symm.trans hoi)
    subst e1
    have h3:=hall e he hb
    rw [hon] at h3
    have hjn:j<n:=by
     have:=b3 i hin
     rw [hoi] at this
     have h2:=Array.all_eq_true_iff_forall_mem.1 this e he
     rw [hb] at h2
     simp at h2
     omega
    exact inv.facts j d hjn h3 hd) hR
   have hdsti:dstOf l.toArray i=oi.dst:=by unfold dstOf;rw [hoi];rfl
   have hdm: ∀t,oi.dst=some t→t∈ds∧t<a0.tmps.size:=by
    intro t ht
    have:=b1 i hin
    rw [hdsti,ht] at this
    simp only [Bool.and_eq_true,List.contains_iff_mem,decide_eq_true_eq] at this
    exact this
   have next: ∀v w',Below w.heap.size w w'→(fact Fs i).holds v w'→(Al.contains i=true→Fresh w v w')→GInvF l.toArray n Fs Al C ds a0 (listed.setIfInBounds i true) (a.put oi.dst v) w':=by
    intro v w' hb hv hfr
    have self: ∀d,dstOf l.toArray i=some d→(a.put oi.dst v).eval (.tmp d)=v:=by
     intro d hd
     rw [hdsti] at hd
     rw [hd,eval_put_self _ _ _ (by rw [inv.away.1];exact (hdm d hd).2)]
    have other: ∀j d,j<n→i≠j→dstOf l.toArray j=some d→(a.put oi.dst v).eval (.tmp d)=a.eval (.tmp d):=by
     intro j d hj e hd
     rw [eval_put_other]
     intro d' hd' heq
     subst heq
     have:=b2 i hin j hj
     rcases this with h|h
     ·exact e h
     ·rw [hdsti,hd',hd] at h
      simp at h
    refine ⟨inv.head.set hi hin,inv.away.put _ (fun t ht=>(hdm t ht).1) v,hCk _ _ inv.con hb,fun j d hj hl hd=>?_,fun j d hj hl hd ha=>?_,fun j k d e hj hk hne hlj hlk hd he aj ak=>?_⟩
    ·by_cases e:i=j
     ·subst e
      rw [self d hd];exact hv
     ·rw [getD_set_ne false e] at hl
      rw [other j d hj e hd]
      exact (fact Fs j).keep _ _ _ (inv.facts j d hj hl hd) hb
    ·by_cases e:i=j
     ·subst e
      rw [self d hd]
      obtain ⟨g,h1,h2,h3⟩:=hfr ha
      exact ⟨g,h1,h3⟩
     ·rw [getD_set_ne false e] at hl
      rw [other j d hj e hd]
      obtain ⟨g,h1,h2⟩:=inv.lows j d hj hl hd ha
      exact ⟨g,h1,Nat.lt_of_lt_of_le h2 hb.size⟩
    ·by_cases e1:i=j
     ·subst e1
      have e2:i≠k:=hne
      rw [getD_set_ne false e2] at hlk
      rw [self d hd,other k e hk e2 he]
      obtain ⟨g,h1,h2,h3⟩:=hfr aj
      obtain ⟨g',h1',h2'⟩:=inv.lows k e hk hlk he ak
      rw [h1,h1']
      intro hc
      simp at hc<;>omega
     ·rw [getD_set_ne false e1] at hlj
      by_cases e2:i=k
      ·subst e2
       rw [self e he,other j d hj e1 hd]
       obtain ⟨g,h1,h2,h3⟩:=hfr ak
       obtain ⟨g',h1',h2'⟩:=inv.lows j d hj hlj hd aj
       rw [h1,h1']
       intro hc
       simp at hc<;>omega
      ·rw [getD_set_ne false e2] at hlk
       rw [other j d hj e1 hd,other k e hk e2 he]
       exact inv.apart j k d e hj hk hne hlj hlk hd he aj ak
   have hcn:cnt (listed.setIfInBounds i true) n≤m:=by
    have:=cnt_set hin (by rw [inv.head.size];exact his) (getD_both hiun)
    omega
   unfold wpOp
   rw [hoi]
   simp only
   rw [guardOf_eq]
   cases hg:guardOf l.toArray oi a.eval with
   |true=>
    simp only [if_true]
    left
    refine Oper.wp_mono ?_ (OpRun.wp ((hst (fun v w'=>Below w.heap.size w w'∧(fact Fs i).holds v w'∧(Al.contains i=true→Fresh w v w')) (fun v w' hb hv hfr=>⟨hb,hv,hfr⟩)).1 hg))
    rintro a' w' ⟨v,rfl,hb,hv,hfr⟩
    exact ih _ _ _ (next v w' hb hv hfr) hcn
   |false=>
    simp only [Bool.false_eq_true,if_false]
    exact ih _ _ _ (next undef w (Below.refl _ _) ((hst (fun v w'=>True) (fun _ _ _ _ _=>trivial)).2 hg).1 ((hst (fun v w'=>True) (fun _ _ _ _ _=>trivial)).2 hg).2) hcn
theorem wp_region_growL {id:Nat} {l:List Oper} {Q:Exit→Act→World→Prop} {a0:Act} {w0:World} (n p:Nat) (ds:List Tmp) (Fs:List Fact) (Al:List Nat)
 (hm:P.follows .mixedOrders=true) (hB:growBL l.toArray n p ds a0.tmps.size=true)
 (hAl:Al.contains p=false)
 (hop:AllOps (StepOKF P l.toArray Fs Al (fun w=>Below w0.heap.size w0 w) ds a0) 0 (l.take n))
 (hlate: ∀o,l[p]? =some o→Late P l.toArray Fs (fun w=>Below w0.heap.size w0 w) ds a0 p o)
 (hQ: ∀d v c (a:Act) w,Q (.panic c) (a.put d v) w→Q (.panic c) a w)
 (hend: ∀(u:Tmp→Value) w,Below w0.heap.size w0 w→(∀j d,j<n→dstOf l.toArray j=some d→(fact Fs j).holds (u d) w)→(∀i j d e,i<n→j<n→i≠j→dstOf l.toArray i=some d→dstOf l.toArray j=some e→Al.contains i=true→Al.contains j=true→u d≠u e)→wpList P l.toArray Q (l.drop n) (putAll a0 ds u) w):
 (Code.region id l.toArray true).wp P Q a0 w0:=by
 have hns:n≤l.length:=by
  simp only [growBL,Bool.and_eq_true,decide_eq_true_eq] at hB
  obtain ⟨⟨⟨_,⟨b40,b41⟩,b42⟩,b5⟩,⟨b6,b7⟩,b8⟩:=hB
  have:l.toArray.size=l.length:=by simp
  omega
 refine wp_region_any hm ?_
 have H:=grow_soundL (P:=P) (Q:=Q) (C:=fun w=>Below w0.heap.size w0 w) hB (fun w w' h k=>h.trans (k.mono h.size)) (fun i o hi ho=>by
  have:=hop.get (l.take n) 0 i o (by rw [List.getElem?_take,if_pos hi];exact ho)
  rwa [Nat.zero_add] at this) hAl hQ hlate hend n (Array.replicate l.toArray.size false) a0 w0.drew
  ⟨⟨by simp,fun j oj _ hl=>(by rw [getD_replicate_false] at hl;cases hl),fun t _ ht=>Go.getD_in (by simpa using ht) (getD_replicate_false _ _)⟩,⟨rfl,rfl,fun _ _=>rfl⟩,(Below.refl _ _).drew,fun j d _ hl=>(by rw [getD_replicate_false] at hl;cases hl),fun j d _ hl=>(by rw [getD_replicate_false] at hl;cases hl),fun j k d e _ _ _ hl=>(by rw [getD_replicate_false] at hl;cases hl)⟩
  (by
   have: ∀k,cnt (Array.replicate l.toArray.size false) k≤k:=by
    intro k
    induction k with
    |zero=>exact Nat.le_refl _
    |succ k ih=>simp only [cnt];split<;>omega
   exact this n)
 have e:n+(l.drop n).length=l.toArray.size:=by simp;omega
 rw [e] at H
 exact H
end
end Go.Ulp
