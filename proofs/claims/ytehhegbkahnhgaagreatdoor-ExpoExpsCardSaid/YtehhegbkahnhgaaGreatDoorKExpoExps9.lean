/- ExpoExps: what the proof leans on, part 9 (Qm Nat8 Shelf). -/
import Derived.Deep.DeepCutAuto
import Derived.Deep.CutBlock
import Derived.Shelf.Small.Bits
import Derived.Shelf.Small.Wraps
import Derived.Ground.Names2Prog
import Derived.Shelf.Slices.SearchI
import Derived.Test.YtehhegbkahnhgaaGreatDoorProg
import Derived.Test.YtehhegbkahnhgaaGreatDoorKExpoExps7
import Derived.Test.YtehhegbkahnhgaaGreatDoorKExpoExps8
set_option linter.unusedVariables false
set_option linter.unusedSimpArgs false
namespace Go.Ulp
open Go.RowKit
def Fact.q (t:TypeId) (D:Dy) (A T:Nat):Fact:=⟨fun v w=>QD t w D A T v,fun _ _ _ h hb=>h.below hb⟩
end Go.Ulp
namespace Go.Proofs.YtehhegbkahnhgaaGreatDoor
open Go.RowKit Go.Ulp
set_option maxHeartbeats 1000000
set_option maxRecDepth 100000
theorem qabs_any (v:Value) (D:Dy) (A T:Nat) (w:World) (hv:QD 3 w D A T v) (hA:A≤100000000) (hT:T≤100000000):
 Calls Tryz.prog 36 #[v] w fun e w'=>RetQD 3 w (absD D) A T e w':=by
 obtain ⟨x,n,a0,c0,rfl,h0,hD,hxA,hn⟩:=hv
 have H0:=hid h0
 have ZB:=hid (fun w h0=>zabs_any a0 c0 x w h0)
 have HV:=hid (show nrm (x.natAbs:Int) (-(n:Int))=absD D by rw [←hD,←nrm_natAbs])
 have HA:=hid (show (x.natAbs:Int).natAbs<2^A by rw [Int.natAbs_natCast];exact hxA)
 have zA:QL 49 ((w.alloc (.cells #[.bool (zneg x),.slice a0 (zl x).length c0,.int .i64 (n:Int)] 49)).alloc (.cells #[.bool false,.slice none 0 0,.int .i64 0] 49)) w.heap.size (zneg x) (.slice a0 (zl x).length c0) n:=(QL.made rfl).alloc _
 have zR0:QL 49 ((w.alloc (.cells #[.bool (zneg x),.slice a0 (zl x).length c0,.int .i64 (n:Int)] 49)).alloc (.cells #[.bool false,.slice none 0 0,.int .i64 0] 49)) (w.heap.size+1) false (.slice none 0 0) 0:=QL.made (by first|omega|(simp;done)|(simp;omega))
 have yb0:Below w.heap.size w ((w.alloc (.cells #[.bool (zneg x),.slice a0 (zl x).length c0,.int .i64 (n:Int)] 49)).alloc (.cells #[.bool false,.slice none 0 0,.int .i64 0] 49)):=by (repeat' first|(with_reducible first|assumption|apply bR|apply bA|apply bN|apply bD|apply bL|apply bS)|refine bT ?_ (by assumption)|go_size)
 clear h0 hD hxA
 go_enter Tryz.func36,Tryz.ntmps36
 go_upto_region 1 with fail
 refine wp_region_grow 5 [3,4,5,6,7] [Fact.is (.pointer (some ⟨w.heap.size,0,none⟩)),Fact.is (.agg #[.bool (zneg x),.slice a0 (zl x).length c0]),Fact.z 3 (x.natAbs:Int),Fact.is (.pointer (some ⟨w.heap.size,2,none⟩)),Fact.is (.int .i64 (n:Int))] (by kernel_rfl) (by kernel_rfl) ⟨?o0,?o1,?o2,?o3,?o4,trivial⟩ ?after
 case o0=>(refine oQ rfl ?_;intro ρ w1 R hcon hfn hρ hb hp hR;have e1:ρ (.tmp 1)=.pointer (some ⟨w.heap.size,0,none⟩):=hρ.tmp 1 rfl;clear hρ hp;unfold OpRun;go_simp;exact hR _ _ (Below.refl _ _) rfl)
 case o1=>(refine oQ rfl ?_;intro ρ w1 R hcon hfn hρ hb hp hR;have e3:ρ (.tmp 3)=_:=hp 0 3 rfl rfl;obtain ⟨⟨j0,j1,-,-,-⟩,j2,-⟩:=zA.below hb;clear hρ hp;unfold OpRun;go_simp;exact hR _ _ (Below.refl _ _) rfl)
 case o2=>(refine oQ rfl ?_;intro ρ w1 R hcon hfn hρ hb hp hR;have e4:ρ (.tmp 4)=_:=hp 1 4 rfl rfl;clear hρ hp;unfold OpRun;go_simp;(refine (ZB.out _ (H0.out.below (below_trans yb0 hb))).mono ?_;rintro e wn ⟨az,cz,rfl,hz9,hbn⟩;exact ⟨_,rfl,hR _ _ hbn ⟨az,cz,rfl,hz9⟩⟩))
 case o3=>(refine oQ rfl ?_;intro ρ w1 R hcon hfn hρ hb hp hR;have e1:ρ (.tmp 1)=.pointer (some ⟨w.heap.size,0,none⟩):=hρ.tmp 1 rfl;clear hρ hp;unfold OpRun;go_simp;exact hR _ _ (Below.refl _ _) rfl)
 case o4=>(refine oQ rfl ?_;intro ρ w1 R hcon hfn hρ hb hp hR;have e6:ρ (.tmp 6)=_:=hp 3 6 rfl rfl;obtain ⟨⟨j0,j1,-,-,-⟩,j2,-⟩:=zA.below hb;clear hρ hp;unfold OpRun;go_simp;exact hR _ _ (Below.refl _ _) rfl)
 case after=>
  intro u wn hb hf
  have f5:=hf 2 5 (by omega) rfl
  have e7:u 7=_:=hf 4 7 (by omega) rfl
  clear hf
  simp only [putAll,Act.put,List.setIfInBounds_toArray,List.set_cons_zero,List.set_cons_succ,List.drop_succ_cons,List.drop_zero,List.drop_nil]
  rw [e7]
  obtain ⟨az,cz,e9,hz9⟩:=f5
  rw [e9]
  have zR3:=zR0.below hb
  have yb3:=below_trans yb0 hb
  obtain ⟨⟨k0,k1,f0,f1,hs2⟩,k2,f2⟩:=id zR3
  clear e9
  go_wp2_with fail
  refine bodyPost_ret (by simp [results,Tryz.results36,go_sem,k0,k1,k2];try rfl) rfl ?_
  exact ⟨_,rfl,⟨_,n,az,cz,rfl,((hz9.setCell hs2 (by decide) _ _).setCell (hs2.setCell _ _) (by decide) _ _).setCell ((hs2.setCell _ _).setCell _ _) (by decide) _ _,HV.out,HA.out,hn⟩,((yb3.setCell (by first|omega|(simp;done)|(simp;omega)) _).setCell (by first|omega|(simp;done)|(simp;omega)) _).setCell (by first|omega|(simp;done)|(simp;omega)) _⟩
end Go.Proofs.YtehhegbkahnhgaaGreatDoor
namespace Go.Ulp
open Go.RowKit
theorem kn_le {q v u vl ul P v1 v2 u2 top:Nat} (hv:v=vl+P*(v2+4294967296*v1)) (hu:u=ul+P*(u2+4294967296*top)) (hul:ul<P) (h:q*v≤u):q*(v2+4294967296*v1)≤u2+4294967296*top:=by
 rcases Nat.lt_or_ge (u2+4294967296*top) (q*(v2+4294967296*v1)) with h1|h1
 ·exfalso
  have h2:P*(u2+4294967296*top+1)≤P*(q*(v2+4294967296*v1)):=Nat.mul_le_mul_left _ h1
  have h3:q*v=q*vl+P*(q*(v2+4294967296*v1)):=by rw [hv,Nat.mul_add,←Nat.mul_assoc q,Nat.mul_comm q P,Nat.mul_assoc]
  rw [Nat.mul_add P,Nat.mul_one] at h2
  omega
 ·exact h1
theorem kn_top {q v1 v2 u2 top:Nat} (h:q*(v2+4294967296*v1)≤u2+4294967296*top) (hu2:u2<4294967296):q*v1≤top:=by
 rw [Nat.mul_add] at h
 have e:q*(4294967296*v1)=4294967296*(q*v1):=by rw [←Nat.mul_assoc,Nat.mul_comm q,Nat.mul_assoc]
 rw [e] at h;omega
theorem kn_lt {g v u vl ul P v1 v2 u2 top:Nat} (hv:v=vl+P*(v2+4294967296*v1)) (hu:u=ul+P*(u2+4294967296*top)) (hvl:vl<P) (hg:g<4294967296) (hv1:0<v1) (h:g*(v2+4294967296*v1)≤u2+4294967296*top):g*v<u+v:=by
 have h3:g*v=g*vl+P*(g*(v2+4294967296*v1)):=by rw [hv,Nat.mul_add,←Nat.mul_assoc g,Nat.mul_comm g P,Nat.mul_assoc]
 have h4:=Nat.mul_le_mul_left P h
 have h5:P*(4294967296*1)≤P*(v2+4294967296*v1):=Nat.mul_le_mul_left _ (by omega)
 have h6:g*vl≤4294967295*vl:=Nat.mul_le_mul_right _ (by omega)
 omega
theorem kn_dec {q g v1 v2 u2 top rest:Nat} (h:q*(v2+4294967296*v1)≤u2+4294967296*top) (ht:g*v1+rest=top) (hc:rest*4294967296+u2<g*v2):q<g:=by
 rcases Nat.lt_or_ge q g with h1|h1
 ·exact h1
 ·exfalso
  have h2:g*(v2+4294967296*v1)≤q*(v2+4294967296*v1):=Nat.mul_le_mul_right _ h1
  have h3:g*(v2+4294967296*v1)=g*v2+4294967296*(g*v1):=by rw [Nat.mul_add,←Nat.mul_assoc,Nat.mul_comm g 4294967296,Nat.mul_assoc]
  omega
theorem kn_end {g v1 v2 u2 top rest:Nat} (ht:g*v1+rest=top) (hg:g<4294967296) (hv2:v2<4294967296) (hc:4294967296≤rest∨g*v2≤rest*4294967296+u2):g*(v2+4294967296*v1)≤u2+4294967296*top:=by
 have h3:g*(v2+4294967296*v1)=g*v2+4294967296*(g*v1):=by rw [Nat.mul_add,←Nat.mul_assoc,Nat.mul_comm g 4294967296,Nat.mul_assoc]
 rcases hc with hc|hc
 ·have:g*v2≤4294967295*4294967295:=Nat.mul_le_mul (by omega) (by omega)
  omega
 ·omega
theorem msub_step {Uk Tk gV c b k u v g d c' b' lo:Nat} (h:Uk+4294967296^k*(c+b)=Tk+gV) (hd:d+lo+b=u+4294967296*b') (hc:lo+4294967296*c'=c+g*v):
 (Uk+4294967296^k*u)+4294967296^(k+1)*(c'+b')=(Tk+4294967296^k*d)+(gV+4294967296^k*(g*v)):=by
 have e1:=congrArg (fun z=>4294967296^k*z) hd
 have e2:=congrArg (fun z=>4294967296^k*z) hc
 simp only [Nat.mul_add] at e1 e2 h ⊢
 rw [Nat.pow_succ,Nat.mul_assoc,Nat.mul_assoc]
 omega
theorem madd_step {X Y V s k x v t s':Nat} (h:Y+4294967296^k*s=X+V) (hd:t+4294967296*s'=s+x+v):
 (Y+4294967296^k*t)+4294967296^(k+1)*s'=(X+4294967296^k*x)+(V+4294967296^k*v):=by
 have e1:=congrArg (fun z=>4294967296^k*z) hd
 simp only [Nat.mul_add] at e1 h ⊢
 rw [Nat.pow_succ,Nat.mul_assoc]
 omega
theorem kn_q {g q u v:Nat} (hq:q=u/v) (hv:0<v) (h1:q≤g) (h2:g*v<u+v):g=q∨g=q+1:=by
 rcases Nat.lt_or_ge (q+1) g with h|h
 ·exfalso
  have h3:(q+2)*v≤g*v:=Nat.mul_le_mul_right _ (by omega)
  have h4:=Nat.div_add_mod u v
  have h5:=Nat.mod_lt u hv
  rw [←hq] at h4
  have:(q+2)*v=v*q+2*v:=by rw [Nat.add_mul,Nat.mul_comm q]
  omega
 ·omega
theorem kn_no {g q u v T:Nat} (hq:q=u/v) (hv:0<v) (h1:g=q∨g=q+1) (h:u=T+g*v):g=q∧T=u%v:=by
 have h4:=Nat.div_add_mod u v
 have h5:=Nat.mod_lt u hv
 rw [←hq] at h4
 rcases h1 with rfl|rfl
 ·exact ⟨rfl,by rw [Nat.mul_comm v] at h4;omega⟩
 ·exfalso;rw [Nat.add_mul,Nat.mul_comm q] at h;omega
theorem kn_yes {g q u v T W:Nat} (hq:q=u/v) (hv:0<v) (h1:g=q∨g=q+1) (h:u+W=T+g*v) (hT:T<W):g=q+1∧T+v=u%v+W:=by
 have h4:=Nat.div_add_mod u v
 have h5:=Nat.mod_lt u hv
 rw [←hq] at h4
 rcases h1 with rfl|rfl
 ·exfalso;rw [Nat.mul_comm v] at h4;omega
 ·refine ⟨rfl,?_⟩;rw [Nat.add_mul,Nat.mul_comm q] at h;omega
theorem lval_append (L M:List Nat):lval (L++M)=lval L+4294967296^L.length*lval M:=val_append _ L M
theorem lval_snoc (L:List Nat) (d:Nat):lval (L++ [d])=lval L+4294967296^L.length*d:=val_snoc _ L d
theorem lval_take_succ (L:List Nat) (k:Nat) (h:k<L.length):lval (L.take (k+1))=lval (L.take k)+4294967296^k*L.getD k 0:=val_take_succ _ L k h
theorem lval_top2 (V:List Nat) (n:Nat) (hn:V.length=n+2):lval V=lval (V.take n)+4294967296^n*(V.getD n 0+4294967296*V.getD (n+1) 0):=by
 conv=>lhs;rw [←List.take_of_length_le (show V.length≤n+1+1 by omega)]
 rw [lval_take_succ V (n+1) (by omega),lval_take_succ V n (by omega),Nat.mul_add,Nat.pow_succ,Nat.mul_assoc];omega
theorem lval_top3 (V:List Nat) (n:Nat) (hn:V.length=n+3):lval V=lval (V.take n)+4294967296^n*(V.getD n 0+4294967296*(V.getD (n+1) 0+4294967296*V.getD (n+2) 0)):=by
 conv=>lhs;rw [←List.take_of_length_le (show V.length≤n+1+1+1 by omega)]
 rw [lval_take_succ V (n+1+1) (by omega),lval_take_succ V (n+1) (by omega),lval_take_succ V n (by omega)]
 have e:V.getD (n+1+1) 0=V.getD (n+2) 0:=rfl
 rw [e]
 simp only [Nat.mul_add,Nat.pow_succ,Nat.mul_assoc];omega
theorem lval_take_lt (V:List Nat) (n:Nat) (h:Lim V) (hn:n≤V.length):lval (V.take n)<4294967296^n:=by
 have:=lval_lt _ (AllLt.take h n);rwa [List.length_take,Nat.min_eq_left hn] at this
def Onl (base g:Nat) (w w':World):Prop:=Below base w w'∧ ∀b,b≠g→w'.heap[b]? =w.heap[b]?
theorem Onl.refl (base g:Nat) (w:World):Onl base g w w:=⟨Below.refl _ _,fun _ _=>rfl⟩
theorem Onl.drewN {base g:Nat} {a w:World} (h:Onl base g a w) (n:Nat):Onl base g a (w.drewN n):=⟨below_drewN h.1 n,h.2⟩
theorem Onl.trans {base g:Nat} {a b c:World} (h:Onl base g a b) (k:Onl base g b c):Onl base g a c:=⟨h.1.trans k.1,fun i hi=>(k.2 i hi).trans (h.2 i hi)⟩
theorem Onl.set {base:Nat} {e:TypeId} {k:IntKind} {w:World} {g n cap:Nat} {L:List Nat} (h:Own base e k w (.slice (some ⟨g,0,none⟩) n cap) L) (i:Nat) (u:Value):Onl base g w (w.setCell ⟨g,i,none⟩ u):=
 ⟨h.set_below i u,fun b hb=>Below.heap_setCell w _ u b hb⟩
def RetDigit (base:Nat) (t:TypeId) (g N cap bv ov cv n:Nat) (A U C V:List Nat) (w:World) (e:Ending) (w':World):Prop:=
 ∃T:List Nat,e=.returned (.int .u32 ((lval U/lval V:Nat):Int))∧T.length=n+3∧Lim T∧lval T=lval U%lval V∧Own base t .u32 w' (.slice (some ⟨g,0,none⟩) N cap) (A++T++C)∧Ns .u32 w' (some ⟨bv,ov,none⟩) cv V∧Onl base g w w'
theorem Own.cast {base:Nat} {e:TypeId} {k j:IntKind} {w:World} {a:Addr} {v:Value} {L:List Nat} {x y:Int} (h:Own base e k (w.setCell a (.int j y)) v L) (hxy:x=y):Own base e k (w.setCell a (.int j x)) v L:=by rw [hxy];exact h
theorem set_mid (A X:List Nat) (d e:Nat) (R:List Nat):(A++X++(e::R)).set (A.length+X.length) d=A++(X++ [d])++R:=by
 rw [List.set_append_right _ _ (by simp)]
 simp
theorem getD_mid (A X:List Nat) (e:Nat) (R:List Nat):(A++X++(e::R)).getD (A.length+X.length) 0=e:=by
 simp [List.getD]
end Go.Ulp
namespace Go.Proofs.YtehhegbkahnhgaaGreatDoor
open Go.RowKit Go.Ulp
set_option maxHeartbeats 1600000
set_option maxRecDepth 100000
theorem digit_any (g N cap c1 bv ov cv base n:Nat) (A U C V:List Nat) (w:World) (hU:U.length=n+3) (hV:V.length=n+2) (lU:Lim U) (lV:Lim V) (htop:0<V.getD (n+1) 0) (hlt:lval U<lval V*4294967296)
 (hown:Own base 106 .u32 w (.slice (some ⟨g,0,none⟩) N cap) (A++U++C)) (hN:Ns .u32 w (some ⟨bv,ov,none⟩) cv V) (hne:bv≠g) (hn:n≤4294967296) (hA:A.length≤4294967296):
 Calls Tryz.prog 123 #[.slice (some ⟨g,A.length,none⟩) (n+3) c1,.slice (some ⟨bv,ov,none⟩) (n+2) cv] w (RetDigit base 106 g N cap bv ov cv n A U C V w):=by
 obtain ⟨v1,hv1⟩: ∃z,z=V.getD (n+1) 0:=⟨_,rfl⟩
 obtain ⟨v2,hv2⟩: ∃z,z=V.getD n 0:=⟨_,rfl⟩
 obtain ⟨u0,hu0⟩: ∃z,z=U.getD (n+2) 0:=⟨_,rfl⟩
 obtain ⟨u1,hu1⟩: ∃z,z=U.getD (n+1) 0:=⟨_,rfl⟩
 obtain ⟨u2,hu2⟩: ∃z,z=U.getD n 0:=⟨_,rfl⟩
 have bv1:v1<4294967296:=by rw [hv1];exact lV.getD (by omega) _
 have bv2:v2<4294967296:=by rw [hv2];exact lV.getD (by omega) _
 have bu0:u0<4294967296:=by rw [hu0];exact lU.getD (by omega) _
 have bu1:u1<4294967296:=by rw [hu1];exact lU.getD (by omega) _
 have bu2:u2<4294967296:=by rw [hu2];exact lU.getD (by omega) _
 rw [←hv1] at htop
 have eV:=lval_top2 V n hV
 have eU:=lval_top3 U n hU
 rw [←hv1,←hv2] at eV
 rw [←hu0,←hu1,←hu2] at eU
 have lu:=lval_take_lt U n lU (by omega)
 have lv:=lval_take_lt V n lV (by omega)
 obtain ⟨q,hq⟩: ∃q,q=lval U/lval V:=⟨_,rfl⟩
 have vpos:0<lval V:=by
  have:4294967296^n*(4294967296*1)≤4294967296^n*(v2+4294967296*v1):=Nat.mul_le_mul_left _ (by omega)
  have:=Nat.pow_pos (n:=n) (show 0<4294967296 by omega)
  omega
 have hqv:q*lval V≤lval U:=by rw [hq];exact Nat.div_mul_le_self _ _
 have hqB:q<4294967296:=by rw [hq];exact Nat.div_lt_of_lt_mul hlt
 have hkq:=kn_le eV eU lu hqv
 obtain ⟨top,ht⟩: ∃top,top=u1+4294967296*u0:=⟨_,rfl⟩
 rw [←ht] at eU hkq
 have hqt:=kn_top hkq bu2
 have hcu: ∀i,i<n+3→w.cell? ⟨g,A.length+i,none⟩=some (.int .u32 (lb U i)):=by
  intro i hi
  rw [hown.cell (A.length+i) (by simp;omega)]
  have:lb (A++U++C) (A.length+i)=lb U i:=by
   unfold lb
   simp [List.getD,List.getElem?_append,hU,hi,show ¬(A.length+i<A.length) by omega]
  rw [this]
 have k0:=hcu (n+2) (by omega)
 have k1:=hcu (n+1) (by omega)
 have k2:=hcu n (by omega)
 obtain ⟨hN1,hN2,hN3⟩:=id hN
 obtain ⟨_,_,e,hcv⟩:=hN3 (by omega)
 obtain ⟨rfl,rfl⟩:bv=_∧ov=_:=by simpa using e
 have j1:=hcv (n+1) (by omega)
 have j2:=hcv n (by omega)
 unfold lb at k0 k1 k2 j1 j2
 rw [←hu0] at k0
 rw [←hu1] at k1
 rw [←hu2] at k2
 rw [←hv1] at j1
 rw [←hv2] at j2
 clear hcu hcv hN3 e
 have E1:=or_join32 (u0:Int) (u1:Int) (by omega) (by omega) (by omega) (by omega)
 have ET:(u0:Int)*4294967296+(u1:Int)=(top:Int):=by omega
 rw [ET] at E1
 have btop:top<18446744073709551616:=by omega
 have Et:=hid ht
 have Hv1:=hid hv1
 have Hv2:=hid hv2
 have Hu0:=hid hu0
 have Hu1:=hid hu1
 have Hu2:=hid hu2
 have Hq:=hid hq
 have HeV:=hid eV
 have HeU:=hid eU
 have HU:=hid hU
 have HV:=hid hV
 have HLT:=hid hlt
 have HKQ:=hid hkq
 clear ET ht hv1 hv2 hu0 hu1 hu2 hq eV eU hU hV hlt hkq
 unfold maxLen at hN2
 have x2:((n+3:Nat):Int)=(n:Int)+3:=by omega
 have x1:((n+2:Nat):Int)=(n:Int)+2:=by omega
 go_enter Tryz.func123,Tryz.ntmps123
 go_wp2_with fail
 have y1:IntKind.i64.wrap ((n:Int)+2-1)=(n:Int)+1:=by rw [IntWalk.i64_in _ (by omega)];omega
 have y2:0≤(n:Int)+1:=by omega
 have y3:((n:Int)+1).toNat=n+1:=by omega
 have y4:((n:Int)+2).toNat=n+2:=by omega
 have y5:0≤(n:Int)+2:=by omega
 have y6:(n:Int)+2<(n:Int)+3:=by omega
 have y7:(n:Int)+1<(n:Int)+3:=by omega
 go_quiet (fail)
 clear y1 y2 y3 y4 y5 y6 y7 E1
 obtain ⟨td,htd⟩: ∃z,z=top/v1:=⟨_,rfl⟩
 have etd:(top:Int)/(v1:Int)=(td:Int):=by rw [htd];exact (Int.natCast_ediv _ _).symm
 have btd:td≤top:=by rw [htd];exact Nat.div_le_self _ _
 have qtd:q≤td:=by rw [htd];exact (Nat.le_div_iff_mul_le htop).2 hqt
 obtain ⟨g0,hg0⟩: ∃z,z=min td 4294967295:=⟨_,rfl⟩
 have g0td:g0≤td:=by omega
 have g0B:g0<4294967296:=by omega
 have qg0:q≤g0:=by omega
 obtain ⟨p0,hp0⟩: ∃z,z=g0*v1:=⟨_,rfl⟩
 have p0le:p0≤top:=by rw [hp0];exact Nat.le_trans (Nat.mul_le_mul_right _ g0td) (by rw [htd];exact Nat.div_mul_le_self _ _)
 have ep0:(g0:Int)*(v1:Int)=(p0:Int):=by rw [hp0];exact (Int.natCast_mul _ _).symm
 have Hg0:=hid hg0
 have Hp0:=hid hp0
 clear hg0 hp0 htd hqt
 go_upto_region 3 with fail
 go_cut [7] (fun s7 wx=>s7=.int .u64 (g0:Int)∧ ∃nq,wx=w.drewN nq)
 case first=>
  by_cases hm:td≤4294967295
  ·have:g0=td:=by have:=Hg0.out;omega
   subst this
   go_wp2_with fail
   all_goals
    go_meet
    exact ⟨by first|rfl|(congr 1;omega),_,rfl⟩
  ·have:g0=4294967295:=by have:=Hg0.out;omega
   subst this
   go_wp2_with fail
   all_goals
    go_meet
    exact ⟨by first|rfl|(congr 1;omega),_,rfl⟩
 case rest=>
  obtain ⟨rfl,nq2,rfl⟩:=hcut
  go_upto_block 0 with fail
  go_cut [7,8] (fun s7 _ wx=> ∃gg:Nat,s7=.int .u64 (gg:Int)∧q≤gg∧gg<4294967296∧gg*(v2+4294967296*v1)≤u2+4294967296*top∧ ∃nq,wx=w.drewN nq)
  case first=>as_aux_lemma=>
   go_wp2_with fail
   go_loopw [7,8] (fun s7 s8 wr=> ∃gg rest:Nat,s7=.int .u64 (gg:Int)∧s8=.int .u64 (rest:Int)∧q≤gg∧gg<4294967296∧gg*v1+rest=top∧ ∃nq,wr=w.drewN nq) (fun s7 _ _=>(intOf s7).toNat)
   case atStart=>exact ⟨g0,top-p0,rfl,by rw [show ((top-p0:Nat):Int)=(top:Int)-(p0:Int) by omega],qg0,g0B,by rw [←Hp0.out];omega,_,rfl⟩
   case round=>
    obtain ⟨gg,rest,rfl,rfl,hqg,hgB,hgr,nq,rfl⟩:=hrel
    obtain ⟨pp,hpp⟩: ∃z,z=gg*v2:=⟨_,rfl⟩
    have bpp:pp≤18446744065119617025:=by rw [hpp];exact Nat.le_trans (Nat.mul_le_mul (show gg≤4294967295 by omega) (show v2≤4294967295 by omega)) (by decide)
    have epp:(gg:Int)*(v2:Int)=(pp:Int):=by rw [hpp];exact (Int.natCast_mul _ _).symm
    have brest:rest≤top:=by omega
    have Hgr:=hid hgr
    have Hpp:=hid hpp
    clear hgr hpp
    have y1:IntKind.i64.wrap ((n:Int)+2-2)=(n:Int):=by rw [IntWalk.i64_in _ (by omega)];omega
    have y2:IntKind.u64.wrap (pp:Int)=(pp:Int):=IntWalk.u64_in _ (by omega)
    have y7:(n:Int)<(n:Int)+3:=by omega
    have y8:(n:Int)<(n:Int)+2:=by omega
    by_cases hr:rest<4294967296
    ·have E5:=or_join32 (rest:Int) (u2:Int) (by omega) (by omega) (by omega) (by omega)
     by_cases hc:rest*4294967296+u2<pp
     ·have hqlt:=kn_dec HKQ.out Hgr.out (by rw [←Hpp.out];exact hc)
      have hd1:decide ((rest:Int)<4294967296)=true:=by simp;omega
      have hd2:decide ((rest:Int)*4294967296+(u2:Int)<(pp:Int))=true:=by simp;omega
      go_wp2_with fail
      go_quiet (fail)
      clear y1 y2 y7 y8
      go_wp2_with fail
      go_roundw
      case rel=>exact ⟨gg-1,rest+v1,by rw [show ((gg-1:Nat):Int)=(gg:Int)-1 by omega],by go_num,by omega,by omega,by have:=Hgr.out;rw [Nat.sub_mul];have:1*v1≤gg*v1:=Nat.mul_le_mul_right _ (by omega);omega,_,by first|rfl|rw [World.drewN_drewN]⟩
      case measure=>simp [intOf];omega
     ·have hd1:decide ((rest:Int)<4294967296)=true:=by simp;omega
      have hd2:decide ((rest:Int)*4294967296+(u2:Int)<(pp:Int))=false:=by simp;omega
      go_wp2_with fail
      go_quiet (fail)
      clear y1 y2 y7 y8
      go_wp2_with fail
      go_meet
      exact ⟨gg,rfl,hqg,hgB,kn_end Hgr.out hgB bv2 (.inr (by rw [←Hpp.out];omega)),_,by first|rfl|rw [World.drewN_drewN]⟩
    ·have hd1:decide ((rest:Int)<4294967296)=false:=by simp;omega
     go_wp2_with fail
     go_quiet (fail)
     clear y1 y2 y7 y8
     go_wp2_with fail
     go_meet
     exact ⟨gg,rfl,hqg,hgB,kn_end Hgr.out hgB bv2 (.inl (by omega)),_,by first|rfl|rw [World.drewN_drewN]⟩
  case rest=>
   obtain ⟨gg,rfl,hqg,hgB,hge,nq3,rfl⟩:=hcut
   have hgq:=kn_q Hq.out vpos hqg (kn_lt HeV.out HeU.out lv hgB htop hge)
   clear hqg hge k0 k1 k2 j1 j2 etd ep0
   have hown0:Own base 106 .u32 (w.drewN nq3) (.slice (some ⟨g,0,none⟩) N cap) (A++ []++(U.drop 0++C)):=by
    rw [List.append_nil,List.drop_zero,←List.append_assoc];exact hown.drewN _
   have hN0:=hN.below (below_drewN (Below.refl _ w) nq3)
   have hb0:Onl base g w (w.drewN nq3):=Onl.drewN (Onl.refl _ _ w) nq3
   obtain ⟨W,hW⟩: ∃W,W=4294967296^(n+3):=⟨_,rfl⟩
   have HW:=hid hW
   clear hW
   go_upto_block 2 with fail
   go_cut [9,10,11,12] (fun _ b _ _ wx=> ∃(bb:Nat) (X:List Nat),b=.int .i64 bb∧bb≤1∧X.length=n+3∧Lim X∧lval U+W*bb=lval X+gg*lval V∧Own base 106 .u32 wx (.slice (some ⟨g,0,none⟩) N cap) (A++X++C)∧Ns .u32 wx (some ⟨bv,ov,none⟩) cv V∧Onl base g w wx)
   case first=>as_aux_lemma=>
    go_wp2_with fail
    go_loopw [9,10,11,12,83] (fun c b _ _ i wr=> ∃(k cc bb:Nat) (X:List Nat),i=.int .i64 k∧k≤n+3∧c=.int .u64 cc∧cc<4294967296∧b=.int .i64 bb∧bb≤1∧(k=n+3→cc=0)∧X.length=k∧Lim X∧lval (U.take k)+4294967296^k*(cc+bb)=lval X+gg*lval (V.take k)∧Own base 106 .u32 wr (.slice (some ⟨g,0,none⟩) N cap) (A++X++(U.drop k++C))∧Ns .u32 wr (some ⟨bv,ov,none⟩) cv V∧Onl base g w wr) (fun _ _ _ _ i _=>n+3-(intOf i).toNat)
    case atStart=>exact ⟨0,0,0,[],rfl,by omega,rfl,by omega,rfl,by omega,fun _=>rfl,rfl,AllLt.nil,by simp [lval,val],hown0,hN0,hb0⟩
    case round=>
     clear hown0 hN0 hb0 hown hN
     obtain ⟨k,cc,bb,X,rfl,hk,rfl,hcc,rfl,hbb,hlast,hX,lX,hv,hown,hN,hb⟩:=hrel
     have HX:=hid hX
     have HE:=hid hv
     have HL:=hid hlast
     clear hX hv hlast
     by_cases hka:k<n+3
     ·obtain ⟨u,hu⟩: ∃z,z=U.getD k 0:=⟨_,rfl⟩
      have bu:u<4294967296:=by rw [hu];exact lU.getD (by omega) _
      have hdr:U.drop k=u::U.drop (k+1):=by rw [hu];exact drop_getD U k (by rw [HU.out];exact hka)
      have hcell:wr.cell? ⟨g,A.length+k,none⟩=some (.int .u32 (u:Int)):=by
       rw [hown.cell (A.length+k) (by simp;have:=HX.out;have:=HU.out;omega)]
       unfold lb
       have h2:=getD_mid A X u (U.drop (k+1)++C)
       rw [HX.out] at h2
       rw [hdr,List.cons_append,h2]
      have hf:=hown.free (A.length+k)
      have hset:=fun d:Nat=>hown.set (A.length+k) d
      have hset2: ∀d:Nat,(A++X++(U.drop k++C)).set (A.length+k) d=A++(X++ [d])++(U.drop (k+1)++C):=fun d=>by
       have h2:=set_mid A X d u (U.drop (k+1)++C)
       rw [HX.out] at h2
       rw [hdr,List.cons_append,h2]
      have Hset:=hid hset
      have Hset2:=hid hset2
      have hg:=hown.base
      have HDR:=hid hdr
      have Hu:=hid hu
      clear hset hset2 hdr hu
      by_cases hkb:k<n+2
      ·obtain ⟨v,hv⟩: ∃z,z=V.getD k 0:=⟨_,rfl⟩
       have bvv:v<4294967296:=by rw [hv];exact lV.getD (by omega) _
       obtain ⟨_,_,e,hcv⟩:=hN.2.2 (by have:=HV.out;omega)
       obtain ⟨rfl,rfl⟩:_=_∧ov=_:=by simpa using e
       have hcell1:=hcv k (by have:=HV.out;omega)
       unfold lb at hcell1
       rw [←hv] at hcell1
       clear hcv e
       obtain ⟨gv,hgv⟩: ∃z,z=gg*v:=⟨_,rfl⟩
       have bgv:gv≤18446744065119617025:=by rw [hgv];exact Nat.le_trans (Nat.mul_le_mul (show gg≤4294967295 by omega) (show v≤4294967295 by omega)) (by decide)
       have egv:(gg:Int)*(v:Int)=(gv:Int):=by rw [hgv];exact (Int.natCast_mul _ _).symm
       obtain ⟨lo,hlo⟩: ∃z,z=(cc+gv)%4294967296:=⟨_,rfl⟩
       obtain ⟨c2,hc2⟩: ∃z,z=(cc+gv)/4294967296:=⟨_,rfl⟩
       have blo:lo<4294967296:=by omega
       have bc2:c2<4294967296:=by omega
       have ea:=and_low32 ((cc:Int)+(gv:Int)) (by omega) (by omega)
       have elo:((cc:Int)+(gv:Int))%4294967296=(lo:Int):=by omega
       have ec2:((cc:Int)+(gv:Int))/4294967296=(c2:Int):=by omega
       rw [elo] at ea
       have Hgv:=hid hgv
       have Hlc:=hid (show lo+4294967296*c2=cc+gv by omega)
       have Hv:=hid hv
       clear hgv hlo hc2 elo hv
       by_cases hx:u<lo+bb
       ·as_aux_lemma=>
        go_wp2_with fail
        go_roundw
        case rel=>
         refine ⟨k+1,c2,1,X++ [u+4294967296-lo-bb],by go_num,by omega,by first|rfl|go_num,by omega,by first|rfl|go_num,by omega,fun h=>by omega,by rw [List.length_append,HX.out];rfl,AllLt.append.2 ⟨lX,AllLt.cons.2 ⟨by omega,AllLt.nil⟩⟩,?_,?_,hN.setCell_far _ _ (fun _ b off he=>by simp at he;simp;omega),hb.trans ((Onl.set hown _ _))⟩
         ·rw [lval_snoc,HX.out,lval_take_succ U k (by rw [HU.out];exact hka),lval_take_succ V k (by rw [HV.out];exact hkb),←Hu.out,←Hv.out,Nat.mul_add gg,Nat.mul_left_comm gg]
          refine msub_step (lo:=lo) HE.out (by omega) ?_
          have:=Hlc.out
          rw [←Hgv.out];omega
         ·have h1:=Hset.out (u+4294967296-lo-bb)
          rw [Hset2.out] at h1
          exact h1.cast (by omega)
        case measure=>simp [intOf];omega
       ·as_aux_lemma=>
        go_wp2_with fail
        go_roundw
        case rel=>
         refine ⟨k+1,c2,0,X++ [u-lo-bb],by go_num,by omega,by first|rfl|go_num,by omega,by first|rfl|go_num,by omega,fun h=>by omega,by rw [List.length_append,HX.out];rfl,AllLt.append.2 ⟨lX,AllLt.cons.2 ⟨by omega,AllLt.nil⟩⟩,?_,?_,hN.setCell_far _ _ (fun _ b off he=>by simp at he;simp;omega),hb.trans ((Onl.set hown _ _))⟩
         ·rw [lval_snoc,HX.out,lval_take_succ U k (by rw [HU.out];exact hka),lval_take_succ V k (by rw [HV.out];exact hkb),←Hu.out,←Hv.out,Nat.mul_add gg,Nat.mul_left_comm gg]
          refine msub_step (lo:=lo) HE.out (by omega) ?_
          have:=Hlc.out
          rw [←Hgv.out];omega
         ·have h1:=Hset.out (u-lo-bb)
          rw [Hset2.out] at h1
          exact h1.cast (by omega)
        case measure=>simp [intOf];omega
      ·have hkn:k=n+2:=by omega
       have hvt:V.take (k+1)=V.take k:=by rw [List.take_of_length_le (by have:=HV.out;omega),List.take_of_length_le (by have:=HV.out;omega)]
       have ea:=and_low32 (cc:Int) (by omega) (by omega)
       have elo:(cc:Int)%4294967296=(cc:Int):=by omega
       have ec2:(cc:Int)/4294967296=0:=by omega
       rw [elo] at ea
       have Hvt:=hid hvt
       have Hkn:=hid hkn
       have Hgv:=hid (show 0=gg*0 by omega)
       have Hlc:=hid (show cc+4294967296*0=cc+0 by omega)
       clear elo hkn hvt
       by_cases hx:u<cc+bb
       ·as_aux_lemma=>
        go_wp2_with fail
        go_roundw
        case rel=>
         refine ⟨k+1,0,1,X++ [u+4294967296-cc-bb],by go_num,by omega,by first|rfl|go_num,by omega,by first|rfl|go_num,by omega,fun h=>by omega,by rw [List.length_append,HX.out];rfl,AllLt.append.2 ⟨lX,AllLt.cons.2 ⟨by omega,AllLt.nil⟩⟩,?_,?_,hN.setCell_far _ _ (fun _ b off he=>by simp at he;simp;omega),hb.trans ((Onl.set hown _ _))⟩
         ·rw [lval_snoc,HX.out,lval_take_succ U k (by rw [HU.out];exact hka),Hvt.out,←Hu.out]
          have:=msub_step (v:=0) (g:=0) (d:=u+4294967296-cc-bb) (b':=1) (c':=0) (lo:=cc) (u:=u) HE.out (by omega) (by omega)
          simpa using this
         ·have h1:=Hset.out (u+4294967296-cc-bb)
          rw [Hset2.out] at h1
          exact h1.cast (by omega)
        case measure=>simp [intOf];omega
       ·as_aux_lemma=>
        go_wp2_with fail
        go_roundw
        case rel=>
         refine ⟨k+1,0,0,X++ [u-cc-bb],by go_num,by omega,by first|rfl|go_num,by omega,by first|rfl|go_num,by omega,fun h=>by omega,by rw [List.length_append,HX.out];rfl,AllLt.append.2 ⟨lX,AllLt.cons.2 ⟨by omega,AllLt.nil⟩⟩,?_,?_,hN.setCell_far _ _ (fun _ b off he=>by simp at he;simp;omega),hb.trans ((Onl.set hown _ _))⟩
         ·rw [lval_snoc,HX.out,lval_take_succ U k (by rw [HU.out];exact hka),Hvt.out,←Hu.out]
          have:=msub_step (v:=0) (g:=0) (d:=u-cc-bb) (b':=0) (c':=0) (lo:=cc) (u:=u) HE.out (by omega) (by omega)
          simpa using this
         ·have h1:=Hset.out (u-cc-bb)
          rw [Hset2.out] at h1
          exact h1.cast (by omega)
        case measure=>simp [intOf];omega
     ·obtain rfl:k=n+3:=by omega
      obtain rfl:cc=0:=HL.out rfl
      have hlen:U.drop (n+3)= []:=by rw [List.drop_eq_nil_iff,HU.out];exact Nat.le_refl _
      rw [hlen,List.nil_append] at hown
      have hE:lval U+W*bb=lval X+gg*lval V:=by
       rw [HW.out]
       have:=HE.out
       rw [List.take_of_length_le (by rw [HU.out];exact Nat.le_refl _),List.take_of_length_le (by rw [HV.out];omega),Nat.zero_add] at this
       exact this
      have hXlt:lval X<4294967296^(n+3):=by have:=lval_lt X lX;rwa [HX.out] at this
      clear HE
      go_wp2_with fail
      go_meet
      exact ⟨bb,X,rfl,hbb,HX.out,lX,hE,hown,hN,hb⟩
   case rest=>
    clear hown0 hN0 hb0 hown hN
    obtain ⟨bb,X,rfl,hbb,hX,lX,hE,hown,hN,hb⟩:=hcut
    have HX:=hid hX
    clear hX
    have hXlt:lval X<W:=by rw [HW.out];have:=lval_lt X lX;rwa [HX.out] at this
    have HEE:=hid hE
    have HXLT:=hid hXlt
    clear hE hXlt
    by_cases hb0:bb=0
    ·as_aux_lemma=>
     subst hb0
     obtain ⟨f1,f2⟩:=kn_no (T:=lval X) Hq.out vpos hgq (by have:=HEE.out;omega)
     have F1:=hid f1
     have F2:=hid f2
     clear f1 f2 hgq hqv
     go_wp2_with fail
     go_ret
     exact ⟨X,ret_int (by rw [F1.out,Hq.out]),HX.out,lX,F2.out,hown,hN,hb⟩
    ·as_aux_lemma=>
     obtain rfl:bb=1:=by omega
     obtain ⟨f1,f2⟩:=kn_yes (T:=lval X) (W:=W) Hq.out vpos hgq (by have:=HEE.out;omega) HXLT.out
     have F1:=hid f1
     have F2:=hid f2
     clear f1 f2 hgq hqv hb0
     have hown0:Own base 106 .u32 wc (.slice (some ⟨g,0,none⟩) N cap) (A++ []++(X.drop 0++C)):=by
      rw [List.append_nil,List.drop_zero,←List.append_assoc];exact hown
     go_wp2_with fail
     go_loopw [13,14,127] (fun c _ i wr=> ∃(k ss:Nat) (Y:List Nat),i=.int .i64 k∧k≤n+3∧c=.int .u64 ss∧ss≤1∧Y.length=k∧Lim Y∧lval Y+4294967296^k*ss=lval (X.take k)+lval (V.take k)∧Own base 106 .u32 wr (.slice (some ⟨g,0,none⟩) N cap) (A++Y++(X.drop k++C))∧Ns .u32 wr (some ⟨bv,ov,none⟩) cv V∧Onl base g w wr) (fun _ _ i _=>n+3-(intOf i).toNat)
     case atStart=>exact ⟨0,0,[],rfl,by omega,rfl,by omega,rfl,AllLt.nil,by simp [lval,val],hown0,hN,hb⟩
     case round=>
      clear hown0 hN hb hown
      obtain ⟨k,ss,Y,rfl,hk,rfl,hss,hY,lY,hv,hown,hN,hb⟩:=hrel
      have HY:=hid hY
      have HE:=hid hv
      clear hY hv
      by_cases hka:k<n+3
      ·obtain ⟨u,hu⟩: ∃z,z=X.getD k 0:=⟨_,rfl⟩
       have bu:u<4294967296:=by rw [hu];exact lX.getD (by omega) _
       have hdr:X.drop k=u::X.drop (k+1):=by rw [hu];exact drop_getD X k (by rw [HX.out];exact hka)
       have hcell:wr.cell? ⟨g,A.length+k,none⟩=some (.int .u32 (u:Int)):=by
        rw [hown.cell (A.length+k) (by simp;have:=HX.out;have:=HY.out;omega)]
        unfold lb
        have h2:=getD_mid A Y u (X.drop (k+1)++C)
        rw [HY.out] at h2
        rw [hdr,List.cons_append,h2]
       have hf:=hown.free (A.length+k)
       have hset:=fun d:Nat=>hown.set (A.length+k) d
       have hset2: ∀d:Nat,(A++Y++(X.drop k++C)).set (A.length+k) d=A++(Y++ [d])++(X.drop (k+1)++C):=fun d=>by
        have h2:=set_mid A Y d u (X.drop (k+1)++C)
        rw [HY.out] at h2
        rw [hdr,List.cons_append,h2]
       have Hset:=hid hset
       have Hset2:=hid hset2
       have Hu:=hid hu
       clear hset hset2 hdr hu
       by_cases hkb:k<n+2
       ·obtain ⟨v,hv⟩: ∃z,z=V.getD k 0:=⟨_,rfl⟩
        have bvv:v<4294967296:=by rw [hv];exact lV.getD (by omega) _
        obtain ⟨_,_,e,hcv⟩:=hN.2.2 (by have:=HV.out;omega)
        obtain ⟨rfl,rfl⟩:_=_∧ov=_:=by simpa using e
        have hcell1:=hcv k (by have:=HV.out;omega)
        unfold lb at hcell1
        rw [←hv] at hcell1
        clear hcv e
        have Hv:=hid hv
        clear hv
        go_wp2_with fail
        go_roundw
        case rel=>
         refine ⟨k+1,(ss+u+v)/4294967296,Y++ [(ss+u+v)%4294967296],by go_num,by omega,by go_num,by omega,by rw [List.length_append,HY.out];rfl,AllLt.append.2 ⟨lY,AllLt.cons.2 ⟨by omega,AllLt.nil⟩⟩,?_,?_,hN.setCell_far _ _ (fun _ b off he=>by simp at he;simp;omega),hb.trans ((Onl.set hown _ _))⟩
         ·rw [lval_snoc,HY.out,lval_take_succ X k (by rw [HX.out];exact hka),lval_take_succ V k (by rw [HV.out];exact hkb),←Hu.out,←Hv.out]
          exact madd_step HE.out (by omega)
         ·have h1:=Hset.out ((ss+u+v)%4294967296)
          rw [Hset2.out] at h1
          exact h1.cast (by omega)
        case measure=>simp [intOf];omega
       ·have hvt:V.take (k+1)=V.take k:=by rw [List.take_of_length_le (by have:=HV.out;omega),List.take_of_length_le (by have:=HV.out;omega)]
        have Hvt:=hid hvt
        clear hvt
        go_wp2_with fail
        go_roundw
        case rel=>
         refine ⟨k+1,(ss+u)/4294967296,Y++ [(ss+u)%4294967296],by go_num,by omega,by go_num,by omega,by rw [List.length_append,HY.out];rfl,AllLt.append.2 ⟨lY,AllLt.cons.2 ⟨by omega,AllLt.nil⟩⟩,?_,?_,hN.setCell_far _ _ (fun _ b off he=>by simp at he;simp;omega),hb.trans ((Onl.set hown _ _))⟩
         ·rw [lval_snoc,HY.out,lval_take_succ X k (by rw [HX.out];exact hka),Hvt.out,←Hu.out]
          have:=madd_step (v:=0) (x:=u) (t:=(ss+u)%4294967296) (s':=(ss+u)/4294967296) HE.out (by omega)
          simpa using this
         ·have h1:=Hset.out ((ss+u)%4294967296)
          rw [Hset2.out] at h1
          exact h1.cast (by omega)
        case measure=>simp [intOf];omega
      ·obtain rfl:k=n+3:=by omega
       have hlen:X.drop (n+3)= []:=by rw [List.drop_eq_nil_iff,HX.out];exact Nat.le_refl _
       rw [hlen,List.nil_append] at hown
       have hE:lval Y+W*ss=lval X+lval V:=by
        rw [HW.out]
        have:=HE.out
        rw [List.take_of_length_le (by rw [HX.out];exact Nat.le_refl _),List.take_of_length_le (by rw [HV.out];omega)] at this
        exact this
       have hYlt:lval Y<W:=by rw [HW.out];have:=lval_lt Y lY;rwa [HY.out] at this
       have hmod:lval U%lval V<lval V:=Nat.mod_lt _ vpos
       have hVlt:lval V≤W:=by rw [HW.out];exact Nat.le_trans (Nat.le_of_lt (by have:=lval_lt V lV;rwa [HV.out] at this)) (Nat.pow_le_pow_right (by omega) (by omega))
       have hfin:lval Y=lval U%lval V:=by
        rw [F2.out] at hE
        have:ss=0∨ss=1:=by omega
        rcases this with rfl|rfl<;>omega
       have HFIN:=hid hfin
       have hF1:=F1.out
       clear hlen hE hYlt hmod hVlt hfin
       subst hF1
       go_wp2_with fail
       go_ret
       exact ⟨Y,ret_int (by have:=Hq.out;omega),HY.out,lY,HFIN.out,hown,hN,hb⟩
end Go.Proofs.YtehhegbkahnhgaaGreatDoor
namespace Go.Proofs
open Go.Shelf
def Tryz.lays133_ren:Go.Shelf.Ren:=⟨fun|133=>109|128=>127|n=>n,fun|51=>106|3=>3|4=>4|46=>34|5=>5|9=>9|n=>n,fun|n=>n⟩
theorem Tryz.lays133:Go.Proofs.Lays.n133 Tryz.prog Tryz.lays133_ren:= {
 mixed:=by kernel_rfl
 f128:=Tryz.func127.trans (congrArg some (by kernel_rfl))
 f133:=Tryz.func109.trans (congrArg some (by kernel_rfl))
 t3:=Tryz.underlying3
 a3:=Tryz.isAgg3
 z3:=Tryz.sizeOf3
 v3:=Tryz.zeroValue3
 t4:=Tryz.underlying4
 a4:=Tryz.isAgg4
 z4:=Tryz.sizeOf4
 v4:=Tryz.zeroValue4
 t5:=Tryz.underlying5
 a5:=Tryz.isAgg5
 z5:=Tryz.sizeOf5
 v5:=Tryz.zeroValue5
 t9:=Tryz.underlying9
 a9:=Tryz.isAgg9
 z9:=Tryz.sizeOf9
 v9:=Tryz.zeroValue9
 t46:=Tryz.underlying34
 a46:=Tryz.isAgg34
 z46:=Tryz.sizeOf34
 v46:=Tryz.zeroValue34
 t51:=Tryz.underlying106
 a51:=Tryz.isAgg106
 z51:=Tryz.sizeOf106
 v51:=Tryz.zeroValue106}
theorem Tryz.bits_LeadingZeros32 (x:Int) (w:World) (h0:0≤x) (h1:x≤4294967295):
 Calls Tryz.prog 109 #[.int .u32 x] w fun e w'=>e=.returned (.int .i64 (32-(Lib.bitLen x.toNat:Int)))∧w'=w:=Any.bits_LeadingZeros32 Tryz.lays133 x w h0 h1
end Go.Proofs
