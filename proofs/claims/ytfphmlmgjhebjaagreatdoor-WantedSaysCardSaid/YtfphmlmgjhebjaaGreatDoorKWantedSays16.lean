/- WantedSays: what the proof leans on, part 16 (Zv RegM). -/
import Derived.Test.YtfphmlmgjhebjaaGreatDoorKWantedSays6
import Derived.Test.YtfphmlmgjhebjaaGreatDoorKWantedSays8
import Derived.Test.YtfphmlmgjhebjaaGreatDoorKWantedSays15
set_option linter.unusedVariables false
set_option linter.unusedSimpArgs false
namespace Go.Ulp
open Go.RowKit
def RetZD (t:TypeId) (w:World) (x:Int) (e:Ending) (w':World):Prop:= ∃v,e=.returned v∧ZD t w' x v∧Below w.heap.size w w'
def RetZD2 (t:TypeId) (w:World) (x y:Int) (e:Ending) (w':World):Prop:= ∃v,e=.returned v∧ZD2 t w' x y v∧Below w.heap.size w w'
theorem RetZ.zd {t:TypeId} {w:World} {x:Int} {e:Ending} {w':World} (h:RetZ t w x e w'):RetZD t w x e w':=by
 obtain ⟨ao,cap,h1,h2,h3⟩:=h;exact ⟨_,h1,⟨ao,cap,rfl,h2⟩,h3⟩
theorem RetZ2.zd {t:TypeId} {w:World} {x y:Int} {e:Ending} {w':World} (h:RetZ2 t w x y e w'):RetZD2 t w x y e w':=by
 obtain ⟨ao,cap,bo,cbp,h1,h2,h3,h4⟩:=h;exact ⟨_,h1,⟨ao,cap,bo,cbp,rfl,h2,h3⟩,h4⟩
theorem ZD2.parts {t:TypeId} {w:World} {x y:Int} {v:Value} (h:ZD2 t w x y v): ∃a b,v=.tuple #[a,b]∧ZD t w x a∧ZD t w y b:=by
 obtain ⟨ao,cap,bo,cbp,h1,h2,h3⟩:=h;exact ⟨_,_,h1,⟨ao,cap,rfl,h2⟩,⟨bo,cbp,rfl,h3⟩⟩
theorem ZD.cast {t:TypeId} {w:World} {x y:Int} {v:Value} (h:ZD t w x v) (e:x=y):ZD t w y v:=by rw [←e];exact h
theorem ZV.cast {tz ti:TypeId} {w:World} {x y:Int} {g:Nat} (h:ZV tz ti w g x) (e:x=y):ZV tz ti w g y:=by rw [←e];exact h
theorem ZV.lt {tz ti:TypeId} {w:World} {x:Int} {g:Nat} (h:ZV tz ti w g x):g<w.heap.size:=by obtain ⟨ao,cap,h1,h2⟩:=h;exact h1.lt
theorem zv_made {tz ti:TypeId} {w:World} {x:Int} {a:Option Addr} {c:Nat} (h:Nz ti w a c (zl x)) (g:Nat) (hg:g=w.heap.size):ZV tz ti (w.alloc (.cells #[.bool (zneg x),.slice a (zl x).length c] tz)) g x:=⟨a,c,ZL.made hg,h.below (below_alloc _ _)⟩
theorem zv_store1 {tz ti:TypeId} {w0 wn:World} {g:Nat} {n:Bool} {u:Value} {x:Int} {a:Option Addr} {c:Nat} (hne:tz≠ti) (hb:Below w0.heap.size w0 wn) (hg:w0.heap.size≤g) (z:ZL tz wn g n u) (h:Nz ti wn a c (zl x)):
 Below w0.heap.size w0 ((wn.setCell ⟨g,0,none⟩ (.bool (zneg x))).setCell ⟨g,1,none⟩ (.slice a (zl x).length c))∧ZV tz ti ((wn.setCell ⟨g,0,none⟩ (.bool (zneg x))).setCell ⟨g,1,none⟩ (.slice a (zl x).length c)) g x:=by
 exact ⟨(hb.setCell (p:=⟨g,0,none⟩) hg _).setCell (p:=⟨g,1,none⟩) hg _,ZV.store z h hne⟩
theorem zv_store2 {tz ti:TypeId} {w0 wn:World} {g k:Nat} {n n':Bool} {u u':Value} {x y:Int} {a b:Option Addr} {c d:Nat} (hne:tz≠ti) (hb:Below w0.heap.size w0 wn) (hg:w0.heap.size≤g) (hk:w0.heap.size≤k) (hgk:g≠k) (z:ZL tz wn g n u) (z':ZL tz wn k n' u') (h:Nz ti wn a c (zl x)) (h':Nz ti wn b d (zl y)):
 Below w0.heap.size w0 ((((wn.setCell ⟨g,0,none⟩ (.bool (zneg x))).setCell ⟨g,1,none⟩ (.slice a (zl x).length c)).setCell ⟨k,0,none⟩ (.bool (zneg y))).setCell ⟨k,1,none⟩ (.slice b (zl y).length d))∧ZV tz ti ((((wn.setCell ⟨g,0,none⟩ (.bool (zneg x))).setCell ⟨g,1,none⟩ (.slice a (zl x).length c)).setCell ⟨k,0,none⟩ (.bool (zneg y))).setCell ⟨k,1,none⟩ (.slice b (zl y).length d)) g x∧ZV tz ti ((((wn.setCell ⟨g,0,none⟩ (.bool (zneg x))).setCell ⟨g,1,none⟩ (.slice a (zl x).length c)).setCell ⟨k,0,none⟩ (.bool (zneg y))).setCell ⟨k,1,none⟩ (.slice b (zl y).length d)) k y:=by
 obtain ⟨h1,h2⟩:=zv_store1 hne hb hg z h
 have z2:=((z'.far ⟨g,0,none⟩ (.bool (zneg x)) hgk.symm).far ⟨g,1,none⟩ (.slice a (zl x).length c) hgk.symm)
 have n2:=h'.st2 z.2.2.2.2 hne (.bool (zneg x)) (.slice a (zl x).length c)
 obtain ⟨h3,h4⟩:=zv_store1 hne h1 hk z2 n2
 exact ⟨h3,h2.set2 z2.2.2.2.2 hne hgk _ _,h4⟩
theorem zv_made2 {tz ti:TypeId} {w:World} {x y:Int} {a b:Option Addr} {c d:Nat} (h:Nz ti w a c (zl x)) (h':Nz ti w b d (zl y)):
 Below w.heap.size w ((w.alloc (.cells #[.bool (zneg x),.slice a (zl x).length c] tz)).alloc (.cells #[.bool (zneg y),.slice b (zl y).length d] tz))∧ZV tz ti ((w.alloc (.cells #[.bool (zneg x),.slice a (zl x).length c] tz)).alloc (.cells #[.bool (zneg y),.slice b (zl y).length d] tz)) w.heap.size x∧ZV tz ti ((w.alloc (.cells #[.bool (zneg x),.slice a (zl x).length c] tz)).alloc (.cells #[.bool (zneg y),.slice b (zl y).length d] tz)) (w.heap.size+1) y:=
 ⟨below_trans (below_alloc _ _) (below_alloc _ _),(zv_made h _ rfl).below (below_alloc _ _),zv_made (h'.below (below_alloc _ _)) _ (by simp)⟩
theorem wp_worldZ {P:Program} {c:Code} {Q:Exit→Act→World→Prop} {a:Act} {w0:World} (F:World→Prop) (hF:F w0) (h: ∀w,F w→Code.wp P c Q a w):Code.wp P c Q a w0:=h w0 hF
end Go.Ulp
namespace Go.Proofs.YtfphmlmgjhebjaaGreatDoor
open Go.RowKit Go.Ulp
set_option maxHeartbeats 1000000
set_option maxRecDepth 100000
theorem zaddD (v u:Value) (x y:Int) (w:World) (hv:ZD 3 w x v) (hu:ZD 3 w y u) (hx:(zl x).length≤100000000) (hy:(zl y).length≤100000000):Calls Tryz.prog 106 #[v,u] w (RetZD 3 w (x+y)):=by
 obtain ⟨a,c,rfl,h⟩:=hv;obtain ⟨b,d,rfl,k⟩:=hu
 exact (zadd_any a b c d x y w h k (by omega) (by omega)).mono fun _ _ h=>h.zd
theorem zmulD (v u:Value) (x y:Int) (w:World) (hv:ZD 3 w x v) (hu:ZD 3 w y u) (hx:(zl x).length≤100000000) (hy:(zl y).length≤100000000):Calls Tryz.prog 107 #[v,u] w (RetZD 3 w (x*y)):=by
 obtain ⟨a,c,rfl,h⟩:=hv;obtain ⟨b,d,rfl,k⟩:=hu
 exact (zmul_any a b c d x y w h k (by omega) (by omega)).mono fun _ _ h=>h.zd
theorem zdivD (v u:Value) (x y:Int) (w:World) (hv:ZD 3 w x v) (hu:ZD 3 w y u) (hx:(zl x).length≤1000000) (hy:(zl y).length≤1000000) (hy0:y≠0):Calls Tryz.prog 118 #[v,u] w (RetZD2 3 w (x/y) (x%y)):=by
 obtain ⟨a,c,rfl,h⟩:=hv;obtain ⟨b,d,rfl,k⟩:=hu
 exact (zdiv_any a b c d x y w h k hx hy hy0).mono fun _ _ h=>h.zd
theorem zcmpD (v u:Value) (x y:Int) (w:World) (hv:ZD 3 w x v) (hu:ZD 3 w y u):Calls Tryz.prog 117 #[v,u] w fun e w'=>e=.returned (.int .i64 (cmpI x y))∧Below w.heap.size w w':=by
 obtain ⟨a,c,rfl,h⟩:=hv;obtain ⟨b,d,rfl,k⟩:=hu
 exact zcmp_any a b c d x y w h k
theorem zabsD (v:Value) (x:Int) (w:World) (hv:ZD 3 w x v):Calls Tryz.prog 119 #[v] w (RetZD 3 w (x.natAbs:Int)):=by
 obtain ⟨a,c,rfl,h⟩:=hv
 exact (zabs_any a c x w h).mono fun _ _ h=>h.zd
theorem zpowD (n:Nat) (w:World) (hn:n≤1000000000):Calls Tryz.prog 120 #[.int .i64 (n:Int)] w (RetZD 3 w (pw n)):=(zpow_any n w hn).mono fun _ _ h=>h.zd
theorem zND (n:Int) (h0:0≤n) (h1:n<9223372036854775808) (w:World):Calls Tryz.prog 108 #[.int .i64 n] w (RetZD 3 w n):=by
 obtain ⟨k,rfl⟩:=Int.eq_ofNat_of_zero_le h0
 exact (zN_any k (by omega) w).mono fun _ _ h=>h.zd
theorem zTextD (v:Value) (x:Int) (w:World) (hv:ZD 3 w x v) (hl:(zl x).length≤1000000):Calls Tryz.prog 202 #[v] w fun e w'=>e=.returned (.string (bsOf (zTx x)))∧Below w.heap.size w w':=by
 obtain ⟨a,c,rfl,h⟩:=hv
 exact zText_any x a c w h hl
end Go.Proofs.YtfphmlmgjhebjaaGreatDoor
namespace Go.Ulp
open Go Go.RowKit
section
variable {P:Program} {ops:Array Oper} {md:Region.Mode}
def pairB (ops:Array Oper) (n p:Nat):Bool:=
 match ops[p]?,ops[n]? with
 |some op,some on=>op.apart ops on&&op.guard.isNone&&on.guard.isNone&&on.dst.isNone
 |_,_=>false
def growBM (ops:Array Oper) (n p:Nat) (ds:List Tmp) (N:Nat):Bool:=
 ((List.range n).all fun i=>match dstOf ops i with|none=>true|some d=>ds.contains d&&decide (d<N))&&
 ((List.range n).all fun i=>(List.range n).all fun j=>decide (i=j)||(match dstOf ops i,dstOf ops j with|some d,some e=>decide (d≠e)|_,_=>true))&&
 ((List.range n).all fun i=>match ops[i]? with|none=>false|some o=>o.after.all fun e=>!Region.binds .any e||decide (e.on<i))&&
 (decide (n<ops.size)&&sinkL ops n p&&Region.chainB .any ops n)&&
 Region.seqB .any ops (ops.size-n) n (firstN n ops.size)&&(Region.noSelect ops&&(pairB ops n p&&decide (n+2=ops.size)&&Region.waitsFor .any ops (n+1) p)&&decide (p<n))
theorem wpOp_at {Q:Exit→Act→World→Prop} {i:Nat} {o:Oper} {v:Value} {a:Act} {w:World} {K:Act→World→Prop} (hi:ops[i]? =some o) (hg:o.guard=none)
 (hv:(execOp a.eval o).run P w=.ok (.value v) w) (h:K (a.put o.dst v) w):wpOp P ops Q i K a w:=by
 unfold wpOp
 simp only [hi]
 have hw:Region.wanted o (yielded ops a.tmps)=true:=by simp [Region.wanted,hg]
 simp only [hw,if_true,Oper.wp,hv,Oper.upon]
 exact .inl h
theorem wpOp_put_skip {Q:Exit→Act→World→Prop} {j:Nat} {oi oj:Oper} {v:Value} {a:Act} {w w':World} {K K':Act→World→Prop} (hj:ops[j]? =some oj) (hap:oi.apart ops oj=true)
 (hsj: ∀cs b,oj.op≠ .select cs b) (hrun:(execOp a.eval oj).run P w=.ok .skip w') (hg:oj.guard=none) (hd:oj.dst=none)
 (hK:K (a.put oi.dst v) w'→K' a w') (h:wpOp P ops Q j K (a.put oi.dst v) w):wpOp P ops Q j K' a w:=by
 obtain ⟨h1,h2,h3⟩:=Oper.apart_spec hap
 unfold wpOp at *
 simp only [hj] at *
 rw [wanted_put oj a oi.dst v h1] at h
 have hw:Region.wanted oj (yielded ops a.tmps)=true:=by simp [Region.wanted,hg]
 simp only [hw,if_true] at h ⊢
 rcases h with h|⟨hasks,hlets⟩
 ·refine .inl ?_
  unfold Oper.wp at *
  rw [execOp_put oj hsj a oi.dst v h1] at h
  rw [hrun] at h ⊢
  simp only [Oper.upon,hd] at h ⊢
  exact hK h
 ·exact .inr ⟨by unfold Oper.asks at *;rw [execOp_put oj hsj a oi.dst v h1] at hasks;exact hasks,hlets⟩
def LateM (P:Program) (ops:Array Oper) (Fs:List Fact) (C:World→Prop) (ds:List Tmp) (a0:Act) (n p:Nat) (o s:Oper):Prop:=
 ∀(ρ:Operand→Value) (w:World),EnvOK ds a0 ρ→C w→(∀j d,j<n→j≠p→dstOf ops j=some d→(fact Fs j).holds (ρ (.tmp d)) w)→
  ∃v w',(execOp ρ o).run P w=.ok (.value v) w∧(fact Fs p).holds v w∧(execOp ρ s).run P w=.ok .skip w'∧(execOp ρ o).run P w'=.ok (.value v) w'
theorem grow_soundM {Q:Exit→Act→World→Prop} {l:List Oper} {n p:Nat} {Fs:List Fact} {Al:List Nat} {C:World→Prop} {ds:List Tmp} {a0:Act} (hB:growBM l.toArray n p ds a0.tmps.size=true)
 (hCk: ∀w w',C w→Below w.heap.size w w'→C w')
 (hop: ∀i o,i<n→l[i]? =some o→StepOKF P l.toArray Fs Al C ds a0 i o)
 (hAl:Al.contains p=false)
 (hlate: ∀o s,l[p]? =some o→l[n]? =some s→LateM P l.toArray Fs C ds a0 n p o s)
 (hend: ∀(u:Tmp→Value) w,C w→(∀j d,j<n→dstOf l.toArray j=some d→(fact Fs j).holds (u d) w)→(∀i j d e,i<n→j<n→i≠j→dstOf l.toArray i=some d→dstOf l.toArray j=some e→Al.contains i=true→Al.contains j=true→u d≠u e)→wpList P l.toArray Q (l.drop n) (putAll a0 ds u) w):
 ∀(m:Nat) (listed:Array Bool) (a:Act) (w:World),GInvF l.toArray n Fs Al C ds a0 listed a w→cnt listed n≤m→wpAny P .any l.toArray Q (m+(l.drop n).length) listed a w:=by
 simp only [growBM,Bool.and_eq_true,Bool.or_eq_true,decide_eq_true_eq,List.all_eq_true,List.mem_range] at hB
 obtain ⟨⟨⟨⟨⟨b1,b2⟩,b3⟩,⟨b40,b41⟩,b42⟩,b5⟩,⟨b6,⟨b70,b71⟩,b72⟩,b8⟩:=hB
 have hns:n≤l.toArray.size:=by omega
 have hlen:(l.drop n).length=l.toArray.size-n:=by simp
 have done: ∀listed a w,GInvF l.toArray n Fs Al C ds a0 listed a w→cnt listed n=0→wpAny P .any l.toArray Q (l.drop n).length listed a w:=by
  intro listed a w inv hc
  have h1:=cnt_zero hc
  have e:=firstN_of (ops:=l.toArray) inv.head.size h1 inv.head.tail
  have hs:Region.seqB .any l.toArray (l.drop n).length n listed=true:=by rw [hlen,e];exact b5
  have ha:=inv.away.lit
  rw [ha]
  exact wpAny_of_seq (l.drop n) n listed _ w (fun j=>by simp [List.getElem?_drop]) hs (hend _ w inv.con (fun j d hj hd=>inv.facts j d hj (h1 j hj) hd) (fun i j d e hi hj hne hd he ai aj=>inv.apart i j d e hi hj hne (h1 i hi) (h1 j hj) hd he ai aj))
 intro m
 induction m with
 |zero=>intro listed a w inv hc;rw [Nat.zero_add];exact done listed a w inv (by omega)
 |succ m ih=>
  intro listed a w inv hc
  by_cases h0:cnt listed n=0
  ·exact wpAny_more' (done listed a w inv h0) _
  ·rcases Classical.em (∀i,i<n→i≠p→listed.getD i false=true) with hallp|hsome
   ·-- p alone is left: it is taken first
    have hpu:listed.getD p false=false:=by
     cases hh:listed.getD p false with
     |false=>rfl
     |true=>
      exfalso;apply h0
      have: ∀k,k≤n→cnt listed k=0:=by
       intro k
       induction k with
       |zero=>intro _;rfl
       |succ k ihk=>
        intro hk
        have hk1:listed.getD k false=true:=by
         by_cases e:k=p
         ·subst e;exact hh
         ·exact hallp k (by omega) e
        simp only [cnt];rw [ihk (by omega),if_pos hk1]
      exact this n (Nat.le_refl _)
    have hps:p<l.toArray.size:=by omega
    obtain ⟨op,hopa⟩: ∃o,l.toArray[p]? =some o:=⟨l.toArray[p]'hps,Array.getElem?_eq_getElem hps⟩
    have hop':l[p]? =some op:=by simpa using hopa
    have elst:=firstL_of (ops:=l.toArray) inv.head.size hallp hpu inv.head.tail
    have hready:p∈Region.ready .any l.toArray listed:=by
     rw [mem_ready]
     refine ⟨Go.getD_in (by rw [inv.head.size];exact hps) hpu,op,hopa,fun e he hb=>?_⟩
     have h1:=b3 p b8
     rw [hopa] at h1
     have h2:=Array.all_eq_true_iff_forall_mem.1 h1 e he
     rw [hb] at h2
     simp at h2
     exact hallp _ (by omega) (by omega)
    have hns2:n<l.toArray.size:=by omega
    obtain ⟨on,hona⟩: ∃o,l.toArray[n]? =some o:=⟨l.toArray[n]'hns2,Array.getElem?_eq_getElem hns2⟩
    have hon':l[n]? =some on:=by simpa using hona
    have hpair:=b70
    unfold pairB at hpair
    rw [hopa,hona] at hpair
    simp only [Bool.and_eq_true,Option.isNone_iff_eq_none] at hpair
    obtain ⟨⟨⟨hap,hgp⟩,hgn⟩,hdn⟩:=hpair
    have hfacts: ∀j d,j<n→j≠p→dstOf l.toArray j=some d→(fact Fs j).holds (a.eval (.tmp d)) w:=fun j d hj hjp hd=>inv.facts j d hj (hallp j hj hjp) hd
    obtain ⟨v,w2,hv1,hv2,hs1,hv3⟩:=hlate op on hop' hon' a.eval w ⟨fun t ht=>inv.away.eval t ht,fun _=>rfl,fun _=>rfl⟩ inv.con hfacts
    have hdsti:dstOf l.toArray p=op.dst:=by unfold dstOf;rw [hopa];rfl
    have hdm: ∀t,op.dst=some t→t∈ds∧t<a0.tmps.size:=by
     intro t ht
     have:=b1 p b8
     rw [hdsti,ht] at this
     simp only [Bool.and_eq_true,List.contains_iff_mem,decide_eq_true_eq] at this
     exact this
    have self: ∀d,dstOf l.toArray p=some d→(a.put op.dst v).eval (.tmp d)=v:=by
     intro d hd
     rw [hdsti] at hd
     rw [hd,eval_put_self _ _ _ (by rw [inv.away.1];exact (hdm d hd).2)]
    have other: ∀j d,j<n→p≠j→dstOf l.toArray j=some d→(a.put op.dst v).eval (.tmp d)=a.eval (.tmp d):=by
     intro j d hj e hd
     rw [eval_put_other]
     intro d' hd' heq
     subst heq
     have:=b2 p b8 j hj
     rcases this with h|h
     ·exact e h
     ·rw [hdsti,hd',hd] at h
      simp at h
    have nalp: ∀j,Al.contains j=true→p≠j:=fun j hj e=>by subst e;rw [hAl] at hj;cases hj
    have inv':GInvF l.toArray n Fs Al C ds a0 (listed.setIfInBounds p true) (a.put op.dst v) w:=by
     refine ⟨inv.head.set hready b8,inv.away.put _ (fun t ht=>(hdm t ht).1) v,inv.con,fun j d hj hl hd=>?_,fun j d hj hl hd ha=>?_,fun j k d e hj hk hne hlj hlk hd he aj ak=>?_⟩
     ·by_cases e:p=j
      ·subst e;rw [self d hd];exact hv2
      ·rw [getD_set_ne false e] at hl
       rw [other j d hj e hd]
       exact inv.facts j d hj hl hd
     ·have e:=nalp j ha
      rw [getD_set_ne false e] at hl
      rw [other j d hj e hd]
      exact inv.lows j d hj hl hd ha
     ·have e1:=nalp j aj
      have e2:=nalp k ak
      rw [getD_set_ne false e1] at hlj
      rw [getD_set_ne false e2] at hlk
      rw [other j d hj e1 hd,other k e hk e2 he]
      exact inv.apart j k d e hj hk hne hlj hlk hd he aj ak
    have hcn:cnt (listed.setIfInBounds p true) n=0:=by
     have: ∀k,k≤n→cnt (listed.setIfInBounds p true) k=0:=by
      intro k
      induction k with
      |zero=>intro _;rfl
      |succ k ihk=>
       intro hk
       have hk1:(listed.setIfInBounds p true).getD k false=true:=by
        by_cases e:p=k
        ·subst e;simp [show p<listed.size by rw [inv.head.size];exact hps]
        ·exact getD_set_true (hallp k (by omega) (Ne.symm e))
       simp only [cnt]
       rw [ihk (by omega),if_pos hk1]
     exact this n (Nat.le_refl _)
    have D:=done _ _ w inv' hcn
    have hl2:(l.drop n).length=1+1:=by rw [hlen];omega
    rw [show m+1+(l.drop n).length=m+((l.drop n).length+1) by omega]
    refine wpAny_more' ?_ m
    rw [hl2] at D ⊢
    have only: ∀(L:Array Bool) (i:Nat),HeadInv .any l.toArray n L∨(L=listed.setIfInBounds n true)→i∈Region.ready .any l.toArray listed→i≠p→i=n:=by
     intro _ i _ hi hip
     obtain ⟨hiun,oi,hoi,hall⟩:=mem_ready.1 hi
     have his:i<l.toArray.size:=(Array.getElem?_eq_some_iff.1 hoi).1
     rcases Nat.lt_trichotomy i n with h|h|h
     ·have:=hallp i h hip
      rw [getD_both hiun] at this;cases this
     ·exact h
     ·have e:i=n+1:=by omega
      subst e
      obtain ⟨oj,hoj,e,he,hb,hon⟩:=Region.waitsFor_spec b72
      have e1:oj=oi:=Option.some.inj (hoj.symm.trans hoi)
      subst e1
      have h3:=hall e he hb
      rw [hon,hpu] at h3;cases h3
    refine ⟨fun h=>(by rw [h] at hready;cases hready),fun i hi=>?_⟩
    by_cases hip:i=p
    ·subst hip
     exact wpOp_at hopa hgp hv1 D
    ·have hin:=only listed i (.inl inv.head) hi hip
     subst hin
     have h1:=D.2 i (ready_mono hi hip)
     refine wpOp_put_skip hona hap (fun cs b=>Region.noSelect_spec b6 i on cs b hona) hs1 hgn hdn ?_ h1
     intro hK
     have hr2:p∈Region.ready .any l.toArray (listed.setIfInBounds i true):=ready_mono hready (Ne.symm hip)
     refine ⟨fun h=>(by rw [h] at hr2;cases hr2),fun k hk=>?_⟩
     have hkp:k=p:=by
      rcases Classical.em (k=p) with h|h
      ·exact h
      ·exfalso
       obtain ⟨hkun,ok,hok,hall⟩:=mem_ready.1 hk
       have hks:k<l.toArray.size:=(Array.getElem?_eq_some_iff.1 hok).1
       have hki:k≠i:=by
        intro e;subst e
        rw [show (listed.setIfInBounds k true).getD k true=true by simp [show k<listed.size by rw [inv.head.size];exact hks]] at hkun
        cases hkun
       rw [getD_set_ne true (Ne.symm hki)] at hkun
       rcases Nat.lt_trichotomy k i with h4|h4|h4
       ·have:=hallp k h4 h
        rw [getD_both hkun] at this;cases this
       ·exact hki h4
       ·have e:k=i+1:=by omega
        subst e
        obtain ⟨oj,hoj,e,he,hb,hon⟩:=Region.waitsFor_spec b72
        have e1:oj=ok:=Option.some.inj (hoj.symm.trans hok)
        subst e1
        have h3:=hall e he hb
        rw [hon,getD_set_ne false hip,hpu] at h3;cases h3
     subst hkp
     refine wpOp_at hopa hgp hv3 ?_
     rw [Array.setIfInBounds_comm _ _ hip]
     exact hK
   have hother: ∃i,i<n∧i≠p∧listed.getD i false=false:=by
    rcases Classical.em (∃i,i<n∧i≠p∧listed.getD i false=false) with h|h
    ·exact h
    ·exfalso;apply hsome
     intro i hi hip
     cases hh:listed.getD i false with
     |true=>rfl
     |false=>exact absurd ⟨i,hi,hip,hh⟩ h
   have hex: ∃i,i<n∧listed.getD i false=false:=by
    rcases Classical.em (∃i,i<n∧listed.getD i false=false) with h|h
    ·exact h
    ·exfalso;apply h0
     have hall: ∀i,i<n→listed.getD i false=true:=fun i hi=>by
      cases hh:listed.getD i false with
      |true=>rfl
      |false=>exact absurd ⟨i,hi,hh⟩ h
     have: ∀k,k≤n→cnt listed k=0:=by
      intro k
      induction k with
      |zero=>intro _;rfl
      |succ k ihk=>intro hk;simp only [cnt];rw [ihk (by omega),if_pos (hall k (by omega))]
     exact this n (Nat.le_refl _)
   have hmin: ∃i,i<n∧listed.getD i false=false∧ ∀j,j<i→listed.getD j false=true:=by
    obtain ⟨i,hi,hl⟩:=hex
    induction i using Nat.strongRecOn with
    |_ i ihi=>
     rcases Classical.em (∃j,j<i∧listed.getD j false=false) with ⟨j,hj,hjl⟩|h
     ·exact ihi j hj (by omega) hjl
     ·exact ⟨i,hi,hl,fun j hj=>by
       cases hh:listed.getD j false with
       |true=>rfl
       |false=>exact absurd ⟨j,hj,hh⟩ h⟩
   obtain ⟨i0,hi0,hl0,hbelow⟩:=hmin
   have hready0:i0∈Region.ready .any l.toArray listed:=by
    rw [mem_ready]
    refine ⟨Go.getD_in (by rw [inv.head.size];omega) hl0,?_⟩
    have:=b3 i0 hi0
    cases ho:l.toArray[i0]? with
    |none=>rw [ho] at this;cases this
    |some o=>
     rw [ho] at this
     refine ⟨o,rfl,fun e he hb=>?_⟩
     have h2:=Array.all_eq_true_iff_forall_mem.1 this e he
     rw [hb] at h2
     simp at h2
     exact hbelow _ h2
   have hun:listed.getD i0 true=false:=(mem_ready.1 hready0).1
   rw [show m+1+(l.drop n).length=(m+(l.drop n).length)+1 by omega]
   refine ⟨fun h=>(by rw [h] at hready0;cases hready0),fun i hi=>?_⟩
   obtain ⟨hiun,oi,hoi,hall⟩:=mem_ready.1 hi
   have his:i<l.toArray.size:=(Array.getElem?_eq_some_iff.1 hoi).1
   have hin:i<n:=by
    rcases Nat.lt_or_ge i n with h|h
    ·exact h
    ·obtain ⟨i1,hi1,hip1,hl1⟩:=hother
     exact absurd hi (tail_waitsL b41 b42 b40 inv.head _ i1 rfl hi1 hip1 (Go.getD_in (by rw [inv.head.size];omega) hl1) i h)
   have hoil:l[i]? =some oi:=by simpa using hoi
   have hst:=fun R hR=>hop i oi hin hoil a.eval w R ⟨fun t ht=>inv.away.eval t ht,fun _=>rfl,fun _=>rfl⟩ inv.con (fun j d hw hd=>by
    obtain ⟨oj,hoj,e,he,hb,hon⟩:=waitsB_spec hw
    have e1:oj=oi:=Option.some.inj (hoj.symm.trans hoi)
    subst e1
    have h3:=hall e he hb
    rw [hon] at h3
    have hjn:j<n:=by
     have:=b3 i hin
     rw [hoi] at this
     have h2:=Array.all_eq_true_iff_forall_mem.1 this e he
     rw [hb] at h2
     simp at h2
     omega
    exact inv.facts j d hjn h3 hd) hR
   have hdsti:dstOf l.toArray i=oi.dst:=by unfold dstOf;rw [hoi];rfl
   have hdm: ∀t,oi.dst=some t→t∈ds∧t<a0.tmps.size:=by
    intro t ht
    have:=b1 i hin
    rw [hdsti,ht] at this
    simp only [Bool.and_eq_true,List.contains_iff_mem,decide_eq_true_eq] at this
    exact this
   have next: ∀v w',Below w.heap.size w w'→(fact Fs i).holds v w'→(Al.contains i=true→Fresh w v w')→GInvF l.toArray n Fs Al C ds a0 (listed.setIfInBounds i true) (a.put oi.dst v) w':=by
    intro v w' hb hv hfr
    have self: ∀d,dstOf l.toArray i=some d→(a.put oi.dst v).eval (.tmp d)=v:=by
     intro d hd
     rw [hdsti] at hd
     rw [hd,eval_put_self _ _ _ (by rw [inv.away.1];exact (hdm d hd).2)]
    have other: ∀j d,j<n→i≠j→dstOf l.toArray j=some d→(a.put oi.dst v).eval (.tmp d)=a.eval (.tmp d):=by
     intro j d hj e hd
     rw [eval_put_other]
     intro d' hd' heq
     subst heq
     have:=b2 i hin j hj
     rcases this with h|h
     ·exact e h
     ·rw [hdsti,hd',hd] at h
      simp at h
    refine ⟨inv.head.set hi hin,inv.away.put _ (fun t ht=>(hdm t ht).1) v,hCk _ _ inv.con hb,fun j d hj hl hd=>?_,fun j d hj hl hd ha=>?_,fun j k d e hj hk hne hlj hlk hd he aj ak=>?_⟩
    ·by_cases e:i=j
     ·subst e
      rw [self d hd];exact hv
     ·rw [getD_set_ne false e] at hl
      rw [other j d hj e hd]
      exact (fact Fs j).keep _ _ _ (inv.facts j d hj hl hd) hb
    ·by_cases e:i=j
     ·subst e
      rw [self d hd]
      obtain ⟨g,h1,h2,h3⟩:=hfr ha
      exact ⟨g,h1,h3⟩
     ·rw [getD_set_ne false e] at hl
      rw [other j d hj e hd]
      obtain ⟨g,h1,h2⟩:=inv.lows j d hj hl hd ha
      exact ⟨g,h1,Nat.lt_of_lt_of_le h2 hb.size⟩
    ·by_cases e1:i=j
     ·subst e1
      have e2:i≠k:=hne
      rw [getD_set_ne false e2] at hlk
      rw [self d hd,other k e hk e2 he]
      obtain ⟨g,h1,h2,h3⟩:=hfr aj
      obtain ⟨g',h1',h2'⟩:=inv.lows k e hk hlk he ak
      rw [h1,h1']
      intro hc
      simp at hc<;>omega
     ·rw [getD_set_ne false e1] at hlj
      by_cases e2:i=k
      ·subst e2
       rw [self e he,other j d hj e1 hd]
       obtain ⟨g,h1,h2,h3⟩:=hfr ak
       obtain ⟨g',h1',h2'⟩:=inv.lows j d hj hlj hd aj
       rw [h1,h1']
       intro hc
       simp at hc<;>omega
      ·rw [getD_set_ne false e2] at hlk
       rw [other j d hj e1 hd,other k e hk e2 he]
       exact inv.apart j k d e hj hk hne hlj hlk hd he aj ak
   have hcn:cnt (listed.setIfInBounds i true) n≤m:=by
    have:=cnt_set hin (by rw [inv.head.size];exact his) (getD_both hiun)
    omega
   unfold wpOp
   rw [hoi]
   simp only
   rw [guardOf_eq]
   cases hg:guardOf l.toArray oi a.eval with
   |true=>
    simp only [if_true]
    left
    refine Oper.wp_mono ?_ (OpRun.wp ((hst (fun v w'=>Below w.heap.size w w'∧(fact Fs i).holds v w'∧(Al.contains i=true→Fresh w v w')) (fun v w' hb hv hfr=>⟨hb,hv,hfr⟩)).1 hg))
    rintro a' w' ⟨v,rfl,hb,hv,hfr⟩
    exact ih _ _ _ (next v w' hb hv hfr) hcn
   |false=>
    simp only [Bool.false_eq_true,if_false]
    exact ih _ _ _ (next undef w (Below.refl _ _) ((hst (fun v w'=>True) (fun _ _ _ _ _=>trivial)).2 hg).1 ((hst (fun v w'=>True) (fun _ _ _ _ _=>trivial)).2 hg).2) hcn
theorem wp_region_growM {id:Nat} {l:List Oper} {Q:Exit→Act→World→Prop} {a0:Act} {w0:World} (n p:Nat) (ds:List Tmp) (Fs:List Fact) (Al:List Nat)
 (hm:P.follows .mixedOrders=true) (hB:growBM l.toArray n p ds a0.tmps.size=true)
 (hAl:Al.contains p=false)
 (hop:AllOps (StepOKF P l.toArray Fs Al (fun w=>Below w0.heap.size w0 w) ds a0) 0 (l.take n))
 (hlate: ∀o s,l[p]? =some o→l[n]? =some s→LateM P l.toArray Fs (fun w=>Below w0.heap.size w0 w) ds a0 n p o s)
 (hend: ∀(u:Tmp→Value) w,Below w0.heap.size w0 w→(∀j d,j<n→dstOf l.toArray j=some d→(fact Fs j).holds (u d) w)→(∀i j d e,i<n→j<n→i≠j→dstOf l.toArray i=some d→dstOf l.toArray j=some e→Al.contains i=true→Al.contains j=true→u d≠u e)→wpList P l.toArray Q (l.drop n) (putAll a0 ds u) w):
 (Code.region id l.toArray true).wp P Q a0 w0:=by
 have hns:n≤l.length:=by
  simp only [growBM,Bool.and_eq_true,decide_eq_true_eq] at hB
  obtain ⟨⟨⟨_,⟨b40,b41⟩,b42⟩,b5⟩,⟨b6,b7⟩,b8⟩:=hB
  have:l.toArray.size=l.length:=by simp
  omega
 refine wp_region_any hm ?_
 have H:=grow_soundM (P:=P) (Q:=Q) (C:=fun w=>Below w0.heap.size w0 w) hB (fun w w' h k=>h.trans (k.mono h.size)) (fun i o hi ho=>by
  have:=hop.get (l.take n) 0 i o (by rw [List.getElem?_take,if_pos hi];exact ho)
  rwa [Nat.zero_add] at this) hAl hlate hend n (Array.replicate l.toArray.size false) a0 w0.drew
  ⟨⟨by simp,fun j oj _ hl=>(by rw [getD_replicate_false] at hl;cases hl),fun t _ ht=>Go.getD_in (by simpa using ht) (getD_replicate_false _ _)⟩,⟨rfl,rfl,fun _ _=>rfl⟩,(Below.refl _ _).drew,fun j d _ hl=>(by rw [getD_replicate_false] at hl;cases hl),fun j d _ hl=>(by rw [getD_replicate_false] at hl;cases hl),fun j k d e _ _ _ hl=>(by rw [getD_replicate_false] at hl;cases hl)⟩
  (by
   have: ∀k,cnt (Array.replicate l.toArray.size false) k≤k:=by
    intro k
    induction k with
    |zero=>exact Nat.le_refl _
    |succ k ih=>simp only [cnt];split<;>omega
   exact this n)
 have e:n+(l.drop n).length=l.toArray.size:=by simp;omega
 rw [e] at H
 exact H
end
end Go.Ulp
