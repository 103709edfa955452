/- TopSum: what the proof leans on, part 17 (Sy0 Tx6 Tx10 Sy3). -/
import Derived.Test.YtfphmlmgjhebjaaGreatDoorKTopSum13
import Derived.Test.YtfphmlmgjhebjaaGreatDoorKTopSum15
import Derived.Test.YtfphmlmgjhebjaaGreatDoorKTopSum16
set_option linter.unusedVariables false
set_option linter.unusedSimpArgs false
namespace Go.Ulp
open Go.RowKit
theorem cmpI_ng (a b:Int):cmpI a b<0↔a<b:=by
 unfold cmpI
 by_cases h:a<b
 ·rw [if_pos h];omega
 ·rw [if_neg h];split<;>omega
theorem cmpI_ps (a b:Int):0<cmpI a b↔b<a:=by
 unfold cmpI
 by_cases h:a<b
 ·rw [if_pos h];omega
 ·rw [if_neg h];split<;>omega
def fitR (K A B r:Nat):Prop:=(rdM K A B ((r:Int)-1)<0∧0<rdM K A B r)∨(r%2=0∧(rdM K A B ((r:Int)-1)=0∨rdM K A B r=0))
theorem rdM_nat (K A B l:Nat):rdM K A B (l:Int)=cmpI ((rvi l*B+rvi (l+1)*B:Nat):Int) ((2*(A*2^K):Nat):Int):=by
 unfold rdM
 rw [show (l:Int)+1=((l+1:Nat):Int) by omega,rvs_nat9,rvs_nat9,pw_nat,Int.natCast_mul 2,Int.natCast_mul A,Int.natCast_add,Int.natCast_mul,Int.natCast_mul,Int.add_mul]
 rfl
def cmpT (n:Nat) (k:Int) (m:Nat) (ex:Int):Int:=cmpI ((n*10^k.toNat*2^(-ex).toNat:Nat):Int) ((m*2^ex.toNat*10^(-k).toNat:Nat):Int)
def lmM (E f:Nat):Nat:=if E=0 then f else f+4503599627370496
def lmH (E:Nat):Nat:=E-1
def lmL (E f:Nat):Nat:=if f=0∧1<E then 4*lmM E f-1 else 4*lmM E f-2
def lmX (E:Nat):Int:=(lmH E:Int)-1076
theorem rvi_lm (E f:Nat) (hf:f<4503599627370496):rvi (E*4503599627370496+f)=lmM E f*2^lmH E∧rvi (E*4503599627370496+f+1)=(lmM E f+1)*2^lmH E:=by
 unfold lmM lmH
 by_cases h:E=0
 ·subst h
  have:=rvi_parts 0 f (by omega) (.inl rfl)
  rw [if_pos rfl,Nat.zero_mul,Nat.zero_add,show 0-1=0 by omega]
  rw [Nat.zero_mul,Nat.zero_add] at this
  exact this
 ·have:=rvi_parts (E-1) (f+4503599627370496) (by omega) (.inr (by omega))
  rw [if_neg h]
  rw [show (E-1)*4503599627370496+(f+4503599627370496)=E*4503599627370496+f by omega] at this
  exact this
theorem lm_low (E f:Nat) (hf:f<4503599627370496) (hr:1≤E*4503599627370496+f):2*(rvi (E*4503599627370496+f-1)+rvi (E*4503599627370496+f))=lmL E f*2^lmH E:=by
 have h0:=(rvi_lm E f hf).1
 by_cases h:f=0∧1<E
 ·obtain ⟨rfl,hE⟩:=h
  have h1:=(rvi_lm (E-1) 4503599627370495 (by omega)).1
  rw [show (E-1)*4503599627370496+4503599627370495=E*4503599627370496+0-1 by omega] at h1
  rw [h0,h1]
  unfold lmL lmM
  rw [if_pos (show (0:Nat)=0∧1<E from ⟨rfl,hE⟩),if_neg (show ¬E=0 by omega),if_neg (show ¬E-1=0 by omega)]
  have h2:lmH E=lmH (E-1)+1:=by unfold lmH;omega
  rw [h2,Nat.pow_succ]
  generalize 2^lmH (E-1)=P
  omega
 ·unfold lmL
  rw [if_neg h]
  by_cases hf0:f=0
  ·subst hf0
   have hE1:E=1:=by
    by_cases h3:E=1
    ·exact h3
    ·exact absurd (And.intro rfl (by omega:1<E)) h
   subst hE1
   have h1:=(rvi_lm 0 4503599627370495 (by omega)).1
   rw [show 1*4503599627370496+0-1=0*4503599627370496+4503599627370495 by omega,h1,h0]
   decide
  ·have h1:=rvi_lm E (f-1) (by omega)
   have h2:lmM E (f-1)=lmM E f-1:=by unfold lmM;split<;>omega
   have h3:1≤lmM E f:=by unfold lmM;split<;>omega
   rw [show E*4503599627370496+f-1=E*4503599627370496+(f-1) by omega,h1.1,h0,h2]
   obtain ⟨a,ha⟩: ∃a,lmM E f=a+1:=⟨lmM E f-1,by omega⟩
   rw [ha,show a+1-1=a by omega,←Nat.add_mul,←Nat.mul_assoc]
   congr 1;omega
theorem lm_high (E f:Nat) (hf:f<4503599627370496):2*(rvi (E*4503599627370496+f)+rvi (E*4503599627370496+f+1))=(4*lmM E f+2)*2^lmH E:=by
 obtain ⟨h0,h1⟩:=rvi_lm E f hf
 rw [h0,h1,←Nat.add_mul,←Nat.mul_assoc]
 congr 1;omega
theorem cmpT_at (n:Nat) (k:Int) (m h:Nat) (y A B:Nat) (hA:A=n*10^k.toNat) (hB:B=10^(-k).toNat) (hy:2*y=m*2^h):
 cmpT n k m ((h:Int)-1076)= -cmpI ((y*B:Nat):Int) ((2*(A*2^1074):Nat):Int):=by
 rw [cmpI_swap,Int.neg_neg]
 unfold cmpT
 rw [←hA,←hB]
 obtain ⟨K,hK⟩: ∃K:Nat,K=1074:=⟨_,rfl⟩
 obtain ⟨S,hS⟩: ∃S:Nat,S=K+2:=⟨_,rfl⟩
 rw [←hK,show (1076:Int)=(S:Int) by omega]
 have e2:(2*(A*2^K))*2=A*2^S:=by
  rw [hS,Nat.pow_add,show (2:Nat)^2=4 from rfl]
  generalize (2:Nat)^K=P
  rw [Nat.mul_assoc,Nat.mul_comm 2 (A*P*2),←Nat.mul_assoc A P 4];omega
 have e3:y*B*2=m*2^h*B:=by rw [←hy,Nat.mul_right_comm,Nat.mul_comm y 2]
 rw [←cmpI_nat_scale (2*(A*2^K)) (y*B) 2 (by omega),e2,e3]
 clear e2
 by_cases hc:S≤h
 ·rw [show (-((h:Int)-(S:Int))).toNat=0 by omega,show ((h:Int)-(S:Int)).toNat=h-S by omega,Nat.pow_zero,Nat.mul_one,
   ←cmpI_nat_scale A (m*2^(h-S)*B) (2^S) (Nat.two_pow_pos _)]
  congr 2
  rw [Nat.mul_right_comm,Nat.mul_assoc m,←Nat.pow_add,show h-S+S=h by omega]
 ·rw [show (-((h:Int)-(S:Int))).toNat=S-h by omega,show ((h:Int)-(S:Int)).toNat=0 by omega,Nat.pow_zero,Nat.mul_one,
   ←cmpI_nat_scale (A*2^(S-h)) (m*B) (2^h) (Nat.two_pow_pos _)]
  congr 2
  ·rw [Nat.mul_assoc A,←Nat.pow_add,show S-h+h=S by omega]
  ·rw [Nat.mul_right_comm]
def fitP (E f n:Nat) (k:Int):Bool:=(decide (0<cmpT n k (lmL E f) (lmX E))&&decide (cmpT n k (4*lmM E f+2) (lmX E)<0))||(decide (f%2=0)&&(decide (cmpT n k (lmL E f) (lmX E)=0)||decide (cmpT n k (4*lmM E f+2) (lmX E)=0)))
theorem fitP_iff (E f n:Nat) (k:Int) (hf:f<4503599627370496) (hr:1≤E*4503599627370496+f):fitP E f n k=true↔fitR 1074 (n*10^k.toNat) (10^(-k).toNat) (E*4503599627370496+f):=by
 obtain ⟨r,hr2⟩: ∃r,r=E*4503599627370496+f:=⟨_,rfl⟩
 have h1:=cmpT_at n k (lmL E f) (lmH E) (rvi (r-1)+rvi r) _ _ rfl rfl (by rw [hr2];exact lm_low E f hf hr)
 have h2:=cmpT_at n k (4*lmM E f+2) (lmH E) (rvi r+rvi (r+1)) _ _ rfl rfl (by rw [hr2];exact lm_high E f hf)
 have g1:=rdM_nat 1074 (n*10^k.toNat) (10^(-k).toNat) (r-1)
 have g2:=rdM_nat 1074 (n*10^k.toNat) (10^(-k).toNat) r
 rw [show ((r-1:Nat):Int)=(r:Int)-1 by omega,show r-1+1=r by omega,←Nat.add_mul] at g1
 rw [←Nat.add_mul] at g2
 rw [←g1] at h1
 rw [←g2] at h2
 have hp:f%2=r%2:=by omega
 unfold fitP fitR lmX
 rw [←hr2,h1,h2,hp]
 simp only [Bool.or_eq_true,Bool.and_eq_true,decide_eq_true_eq]
 omega
def RetRat (w:World) (neg:Bool) (a b:Nat) (e:Ending) (w':World):Prop:= ∃g,e=.returned (.pointer (some ⟨g,0,none⟩))∧RtAt w' g neg a b∧Below w.heap.size w w'
def Fact.rat (neg:Bool) (a b:Nat):Fact:=⟨fun v w=> ∃g,v=.pointer (some ⟨g,0,none⟩)∧RtAt w g neg a b,fun _ _ _ h hb=>by
 obtain ⟨g,h1,h2⟩:=h;exact ⟨g,h1,h2.below hb⟩⟩
def Fact.rtv (neg:Bool) (s:Value) (x:Int) (a b:Nat):Fact:=⟨fun v w=> ∃an cn bn dn,v=.agg #[.bool neg,s,.int .i64 x,.slice an (limbs a).length cn,.slice bn (limbs b).length dn]∧Ns .u32 w an cn (limbs a)∧Ns .u32 w bn dn (limbs b),fun _ _ _ h hb=>by
 obtain ⟨an,cn,bn,dn,h1,h2,h3⟩:=h;exact ⟨an,cn,bn,dn,h1,h2.below hb,h3.below hb⟩⟩
theorem rat_made (w:World) (neg:Bool) (s:Value) (x:Int) (a b:Nat) (an bn:Option Addr) (cn dn:Nat) (t:TypeId) (h:Ns .u32 w an cn (limbs a)) (k:Ns .u32 w bn dn (limbs b)):
 RtAt (w.alloc (.cells #[.bool neg,s,.int .i64 x,.slice an (limbs a).length cn,.slice bn (limbs b).length dn] t)) w.heap.size neg a b:=by
 refine ⟨an,cn,bn,dn,?_,?_,?_,h.below (below_alloc _ _),k.below (below_alloc _ _)⟩
 ·rw [World.cell?_alloc_at (hn:=rfl)];rfl
 ·rw [World.cell?_alloc_at (hn:=rfl)];rfl
 ·rw [World.cell?_alloc_at (hn:=rfl)];rfl
end Go.Ulp
namespace Go.Proofs.YtfphmlmgjhebjaaGreatDoor
open Go.RowKit Go.Ulp
set_option maxHeartbeats 1000000
set_option maxRecDepth 100000
theorem scaled_any (v:Value) (D:Dy) (t:Int) (w:World) (hv:VD w D v) (hl:(limbs D.1.natAbs).length≤1000) (he: -20000≤D.2∧D.2≤20000) (ht: -10000≤t∧t≤10000):
 Calls Tryz.prog 182 #[v,.int .i64 t] w (RetRat w (decide (D.1<0)) (dA D*tnN t) (dB D*tnN (-t))):=by
 obtain ⟨am,cm,rfl,hN⟩:=hv
 obtain ⟨M,hM⟩: ∃M,M=D.1.natAbs:=⟨_,rfl⟩
 obtain ⟨x,hx⟩: ∃x,x=D.2:=⟨_,rfl⟩
 obtain ⟨neg,hneg⟩: ∃n,n=decide (D.1<0):=⟨_,rfl⟩
 obtain ⟨T,hT⟩: ∃T:Nat,T=t.toNat:=⟨_,rfl⟩
 obtain ⟨S,hS⟩: ∃T:Nat,T=(-t).toNat:=⟨_,rfl⟩
 obtain ⟨X,hX⟩: ∃T:Nat,T=x.toNat:=⟨_,rfl⟩
 obtain ⟨Y,hY⟩: ∃T:Nat,T=(-x).toNat:=⟨_,rfl⟩
 have EA:dA D*tnN t=M*10^T*2^X:=by unfold dA tnN;rw [←hM,←hx,←hX,←hT,Nat.mul_right_comm]
 have EB:dB D*tnN (-t)=10^S*2^Y:=by unfold dB tnN;rw [←hx,←hY,←hS,Nat.mul_comm]
 rw [EA,EB]
 rw [←hM] at hN hl ⊢
 rw [←hx,←hneg]
 rw [←hx] at he
 have m1:max t 0=(T:Int):=by omega
 have m2:max (-t) 0=(S:Int):=by omega
 have m3:max x 0=(X:Int):=by omega
 have m4:max (-x) 0=(Y:Int):=by omega
 clear EA EB hM hx hneg
 have lT:=limbs_ten T (by omega)
 have lS:=limbs_ten S (by omega)
 have lMT:=limbs_len_mul M (10^T) 1000 3002 hl lT
 have P1:=hid (fun w=>pow10_any T (by omega) w)
 have P2:=hid (fun w=>pow10_any S (by omega) w)
 have TI:=hid (fun b d w h0 h1=>times_any am b cm d M (10^T) w h0 h1 (by omega) (by omega))
 have L1:=hid (fun b d w h0=>leftN_any b d (M*10^T) X w h0 (by omega) (by omega))
 have L2:=hid (fun b d w h0=>leftN_any b d (10^S) Y w h0 (by omega) (by omega))
 have HN:=hid hN
 clear hN lT lS lMT hT hS hX hY
 have zQ:QL 67 (w.alloc (.cells #[.bool neg,.slice am (limbs M).length cm,.int .i64 x] 67)) w.heap.size neg (.slice am (limbs M).length cm) x:=QL.made rfl
 have yb0:=below_alloc w (.cells #[.bool neg,.slice am (limbs M).length cm,.int .i64 x] 67)
 go_enter Tryz.func182,Tryz.ntmps182
 go_upto_region 1 with fail
 refine wp_worldZ (fun WW=>Below w.heap.size w WW∧QL 67 WW w.heap.size neg (.slice am (limbs M).length cm) x∧Ns .u32 WW am cm (limbs M)) ⟨yb0,zQ,HN.out.below yb0⟩ ?_
 intro W1 ⟨yb1,zQ1,hN1⟩
 obtain ⟨g2,hg2⟩: ∃g,g=w.heap.size:=⟨_,rfl⟩
 rw [←hg2] at zQ1
 rw [←hg2]
 clear hg2 zQ yb0 HN
 refine wp_region_grow 23 [5,6,7,8,9,10,11,12,13,14,15,16,17,18,19,20,21,22,23,24,25,26,4] [Fact.is (.agg #[.bool neg,.slice am (limbs M).length cm,.int .i64 x]),Fact.is (.pointer (some ⟨g2,1,none⟩)),Fact.is (.slice am (limbs M).length cm),Fact.is (.int .i64 t),Fact.is (.int .i64 (T:Int)),Fact.li (10^T),Fact.li (M*10^T),Fact.is (.pointer (some ⟨g2,2,none⟩)),Fact.is (.int .i64 x),Fact.is (.int .i64 (X:Int)),Fact.li (M*10^T*2^X),Fact.is (.int .i64 t),Fact.is (.int .i64 (-t)),Fact.is (.int .i64 (S:Int)),Fact.li (10^S),Fact.is (.pointer (some ⟨g2,2,none⟩)),Fact.is (.int .i64 x),Fact.is (.int .i64 (-x)),Fact.is (.int .i64 (Y:Int)),Fact.li (10^S*2^Y),Fact.rtv neg (.slice am (limbs M).length cm) x (M*10^T*2^X) (10^S*2^Y),Fact.rat neg (M*10^T*2^X) (10^S*2^Y),Fact.rat neg (M*10^T*2^X) (10^S*2^Y)] (by kernel_rfl) (by kernel_rfl) ⟨?o0,?o1,?o2,?o3,?o4,?o5,?o6,?o7,?o8,?o9,?o10,?o11,?o12,?o13,?o14,?o15,?o16,?o17,?o18,?o19,?o20,?o21,?o22,trivial⟩ ?after
 case o0=>(refine oQ rfl ?_;intro ρ w1 R hcon hfn hρ hb hp hR;have e2:ρ (.tmp 2)=.pointer (some ⟨g2,0,none⟩):=hρ.tmp 2 rfl;obtain ⟨⟨j0,j1,-⟩,j2,-⟩:=zQ1.below hb;clear hρ hp;unfold OpRun;go_simp;exact hR _ _ (Below.refl _ _) rfl)
 case o1=>(refine oQ rfl ?_;intro ρ w1 R hcon hfn hρ hb hp hR;have e2:ρ (.tmp 2)=.pointer (some ⟨g2,0,none⟩):=hρ.tmp 2 rfl;clear hρ hp;unfold OpRun;go_simp;exact hR _ _ (Below.refl _ _) rfl)
 case o2=>(refine oQ rfl ?_;intro ρ w1 R hcon hfn hρ hb hp hR;have e6:ρ (.tmp 6)=_:=hp 1 6 rfl rfl;obtain ⟨⟨j0,j1,-⟩,j2,-⟩:=zQ1.below hb;clear hρ hp;unfold OpRun;go_simp;exact hR _ _ (Below.refl _ _) rfl)
 case o3=>(refine oQ rfl ?_;intro ρ w1 R hcon hfn hρ hb hp hR;have e1:ρ (.tmp 1)=.int .i64 t:=hρ.tmp 1 rfl;clear hρ hp;unfold OpRun;go_simp;exact hR _ _ (Below.refl _ _) rfl)
 case o4=>(refine oQ rfl ?_;intro ρ w1 R hcon hfn hρ hb hp hR;have e8:ρ (.tmp 8)=_:=hp 3 8 rfl rfl;clear hρ hp;unfold OpRun;go_simp;exact hR _ _ (Below.refl _ _) rfl)
 case o5=>(refine oQ rfl ?_;intro ρ w1 R hcon hfn hρ hb hp hR;have e9:ρ (.tmp 9)=_:=hp 4 9 rfl rfl;clear hρ hp;unfold OpRun;go_simp;(refine (P1.out _).mono ?_;rintro e wn ⟨b9,d9,rfl,hn9,hbn⟩;exact ⟨_,rfl,hR _ _ hbn ⟨b9,d9,rfl,hn9⟩⟩))
 case o6=>(refine oQ rfl ?_;intro ρ w1 R hcon hfn hρ hb hp hR;have e7:ρ (.tmp 7)=_:=hp 2 7 rfl rfl;have f10:=hp 5 10 rfl rfl;obtain ⟨b10,d10,e10,hn10⟩:=f10;clear hρ hp;unfold OpRun;go_simp;(skip;refine (TI.out _ _ _ (hN1.below hb) hn10).mono ?_;rintro e wn ⟨b9,rfl,hn9,hbn⟩;exact ⟨_,rfl,hR _ _ hbn ⟨b9,_,rfl,hn9⟩⟩))
 case o7=>(refine oQ rfl ?_;intro ρ w1 R hcon hfn hρ hb hp hR;have e2:ρ (.tmp 2)=.pointer (some ⟨g2,0,none⟩):=hρ.tmp 2 rfl;clear hρ hp;unfold OpRun;go_simp;exact hR _ _ (Below.refl _ _) rfl)
 case o8=>(refine oQ rfl ?_;intro ρ w1 R hcon hfn hρ hb hp hR;have e12:ρ (.tmp 12)=_:=hp 7 12 rfl rfl;obtain ⟨⟨j0,j1,-⟩,j2,-⟩:=zQ1.below hb;clear hρ hp;unfold OpRun;go_simp;exact hR _ _ (Below.refl _ _) rfl)
 case o9=>(refine oQ rfl ?_;intro ρ w1 R hcon hfn hρ hb hp hR;have e13:ρ (.tmp 13)=_:=hp 8 13 rfl rfl;clear hρ hp;unfold OpRun;go_simp;exact hR _ _ (Below.refl _ _) rfl)
 case o10=>(refine oQ rfl ?_;intro ρ w1 R hcon hfn hρ hb hp hR;have f11:=hp 6 11 rfl rfl;have e14:ρ (.tmp 14)=_:=hp 9 14 rfl rfl;obtain ⟨b11,d11,e11,hn11⟩:=f11;clear hρ hp;unfold OpRun;go_simp;(skip;refine (L1.out _ _ _ hn11).mono ?_;rintro e wn ⟨b9,rfl,hn9,hbn⟩;exact ⟨_,rfl,hR _ _ hbn ⟨b9,_,rfl,hn9⟩⟩))
 case o11=>(refine oQ rfl ?_;intro ρ w1 R hcon hfn hρ hb hp hR;have e1:ρ (.tmp 1)=.int .i64 t:=hρ.tmp 1 rfl;clear hρ hp;unfold OpRun;go_simp;exact hR _ _ (Below.refl _ _) rfl)
 case o12=>(refine oQ rfl ?_;intro ρ w1 R hcon hfn hρ hb hp hR;have e16:ρ (.tmp 16)=_:=hp 11 16 rfl rfl;have hwp:IntKind.i64.wrap (-t)= -t:=IntWalk.i64_in _ (by omega);clear hρ hp;unfold OpRun;go_simp;exact hR _ _ (Below.refl _ _) rfl)
 case o13=>(refine oQ rfl ?_;intro ρ w1 R hcon hfn hρ hb hp hR;have e17:ρ (.tmp 17)=_:=hp 12 17 rfl rfl;clear hρ hp;unfold OpRun;go_simp;exact hR _ _ (Below.refl _ _) rfl)
 case o14=>(refine oQ rfl ?_;intro ρ w1 R hcon hfn hρ hb hp hR;have e18:ρ (.tmp 18)=_:=hp 13 18 rfl rfl;clear hρ hp;unfold OpRun;go_simp;(refine (P2.out _).mono ?_;rintro e wn ⟨b9,d9,rfl,hn9,hbn⟩;exact ⟨_,rfl,hR _ _ hbn ⟨b9,d9,rfl,hn9⟩⟩))
 case o15=>(refine oQ rfl ?_;intro ρ w1 R hcon hfn hρ hb hp hR;have e2:ρ (.tmp 2)=.pointer (some ⟨g2,0,none⟩):=hρ.tmp 2 rfl;clear hρ hp;unfold OpRun;go_simp;exact hR _ _ (Below.refl _ _) rfl)
 case o16=>(refine oQ rfl ?_;intro ρ w1 R hcon hfn hρ hb hp hR;have e20:ρ (.tmp 20)=_:=hp 15 20 rfl rfl;obtain ⟨⟨j0,j1,-⟩,j2,-⟩:=zQ1.below hb;clear hρ hp;unfold OpRun;go_simp;exact hR _ _ (Below.refl _ _) rfl)
 case o17=>(refine oQ rfl ?_;intro ρ w1 R hcon hfn hρ hb hp hR;have e21:ρ (.tmp 21)=_:=hp 16 21 rfl rfl;have hwp:IntKind.i64.wrap (-x)= -x:=IntWalk.i64_in _ (by omega);clear hρ hp;unfold OpRun;go_simp;exact hR _ _ (Below.refl _ _) rfl)
 case o18=>(refine oQ rfl ?_;intro ρ w1 R hcon hfn hρ hb hp hR;have e22:ρ (.tmp 22)=_:=hp 17 22 rfl rfl;clear hρ hp;unfold OpRun;go_simp;exact hR _ _ (Below.refl _ _) rfl)
 case o19=>(refine oQ rfl ?_;intro ρ w1 R hcon hfn hρ hb hp hR;have f19:=hp 14 19 rfl rfl;have e23:ρ (.tmp 23)=_:=hp 18 23 rfl rfl;obtain ⟨b19,d19,e19,hn19⟩:=f19;clear hρ hp;unfold OpRun;go_simp;(skip;refine (L2.out _ _ _ hn19).mono ?_;rintro e wn ⟨b9,rfl,hn9,hbn⟩;exact ⟨_,rfl,hR _ _ hbn ⟨b9,_,rfl,hn9⟩⟩))
 case o20=>(refine oQ rfl ?_;intro ρ w1 R hcon hfn hρ hb hp hR;have e5:ρ (.tmp 5)=_:=hp 0 5 rfl rfl;have f15:=hp 10 15 rfl rfl;have f24:=hp 19 24 rfl rfl;obtain ⟨b15,d15,e15,hn15⟩:=f15;obtain ⟨b24,d24,e24,hn24⟩:=f24;clear hρ hp;unfold OpRun;go_simp;exact hR _ _ (Below.refl _ _) ⟨b15,d15,b24,d24,rfl,hn15,hn24⟩)
 case o21=>(refine oQ rfl ?_;intro ρ w1 R hcon hfn hρ hb hp hR;have f25:=hp 20 25 rfl rfl;obtain ⟨b15,d15,b24,d24,e25,hn15,hn24⟩:=f25;clear hρ hp;unfold OpRun;go_simp;exact hR _ _ (below_alloc _ _) ⟨_,rfl,rat_made _ _ _ _ _ _ _ _ _ _ _ hn15 hn24⟩)
 case o22=>(refine oQ rfl ?_;intro ρ w1 R hcon hfn hρ hb hp hR;have f26:=hp 21 26 rfl rfl;clear hρ hp;unfold OpRun;go_simp;exact hR _ _ (Below.refl _ _) f26)
 case after=>
  intro u wn hb hf
  have f4:=hf 22 4 (by omega) rfl
  clear hf
  simp only [putAll,Act.put,List.setIfInBounds_toArray,List.set_cons_zero,List.set_cons_succ,List.drop_succ_cons,List.drop_zero,List.drop_nil]
  obtain ⟨g4,e4,hr4⟩:=f4
  rw [e4]
  go_wp2_with fail
  go_ret
  exact ⟨g4,rfl,hr4,below_trans yb1 hb⟩
end Go.Proofs.YtfphmlmgjhebjaaGreatDoor
namespace Go.Ulp
open Go.RowKit
theorem less_dec {a b:Nat} {p:Int} (h:IsDec a b p) (c:Int):lessT a b c=decide (p<c):=by
 by_cases h1:p<c
 ·rw [decide_eq_true h1]
  have:=lessT_le a b (p+1) (c-(p+1)).toNat h.2
  rwa [show p+1+((c-(p+1)).toNat:Int)=c by omega] at this
 ·rw [decide_eq_false h1]
  cases hh:lessT a b c with
  |false=>rfl
  |true=>
   have:=lessT_le a b c (p-c).toNat hh
   rw [show c+((p-c).toNat:Int)=p by omega,h.1] at this
   cases this
theorem tdiv_bd (a:Int) (h: -90309000≤a∧a≤90309000): -904≤a.tdiv 100000∧a.tdiv 100000≤904:=by
 rcases Int.le_total 0 a with h0|h0
 ·rw [Int.tdiv_eq_ediv_of_nonneg h0];omega
 ·obtain ⟨c,rfl⟩: ∃c,a= -c:=⟨-a,by omega⟩
  rw [Int.neg_tdiv,Int.tdiv_eq_ediv_of_nonneg (by omega)];omega
end Go.Ulp
namespace Go.Proofs.YtfphmlmgjhebjaaGreatDoor
open Go.RowKit Go.Ulp
set_option maxHeartbeats 2000000
set_option maxRecDepth 100000
theorem less1_any (g:Nat) (D:Dy) (am:Option Addr) (cm:Nat) (pd c:Int) (w:World) (hz:QL 67 w g (decide (D.1<0)) (.slice am (limbs D.1.natAbs).length cm) D.2) (hN:Ns .u32 w am cm (limbs D.1.natAbs)) (hl:(limbs D.1.natAbs).length≤1000) (he: -20000≤D.2∧D.2≤20000) (hc: -10000≤c∧c≤10000) (hp:IsDec (dA D) (dB D) pd):
 Calls Tryz.prog 220 #[.int .i64 c,.pointer (some ⟨g,0,none⟩)] w fun e w'=>e=.returned (.bool (decide (pd<c)))∧Below w.heap.size w w':=by
 have SC:=hid (show ∀w,Ns .u32 w am cm (limbs D.1.natAbs)→Calls Tryz.prog 182 #[.agg #[.bool (decide (D.1<0)),.slice am (limbs D.1.natAbs).length cm,.int .i64 D.2],.int .i64 (-c)] w (RetRat w (decide (D.1<0)) (dA D*tnN (-c)) (dB D*tnN c)) from fun w h=>by
  have h9:=scaled_any _ D (-c) w ⟨am,cm,rfl,h⟩ hl he (by omega)
  rwa [show- -c=c by omega] at h9)
 obtain ⟨A,hA⟩: ∃A,A=dA D*tnN (-c):=⟨_,rfl⟩
 obtain ⟨B,hB⟩: ∃B,B=dB D*tnN c:=⟨_,rfl⟩
 have HL:=hid (show decide (cmpI (A:Int) (B:Int)<0)=decide (pd<c) by
  rw [←less_dec hp c]
  unfold lessT
  rw [decide_eq_decide,cmpI_lt,hA,hB]
  omega)
 rw [←hA,←hB] at SC
 have CM:=hid (show ∀a0 a1 c0 c1 w,Ns .u32 w a0 c0 (limbs A)→Ns .u32 w a1 c1 (limbs B)→Calls Tryz.prog 210 #[.slice a0 (limbs A).length c0,.slice a1 (limbs B).length c1] w fun e w'=>e=.returned (.int .i64 (cmpI A B))∧Below w.heap.size w w' from fun a0 a1 c0 c1 w h0 h1=>(compare_any a0 a1 c0 c1 A B w h0 h1).mono fun e w' ⟨k1,nq,k2⟩=>⟨k1,by rw [k2];exact below_drewN (Below.refl _ _) nq⟩)
 have hwc:IntKind.i64.wrap (-c)= -c:=IntWalk.i64_in _ (by omega)
 have HN:=hid hN
 obtain ⟨⟨j0,j1,-⟩,j2,-⟩:=id hz
 generalize decide (D.1<0)=neg at *
 generalize decide (pd<c)=bb at *
 clear hA hB hN hz hl he hp
 go_enter Tryz.func220,Tryz.ntmps220
 go_upto_region 2 with (go_at_call 182;(with_reducible refine (SC.out _ HN.out).mono ?_);rintro en w1 ⟨g4,rfl,⟨an,cn,bn,dn,k0,k3,k4,hNa,hNb⟩,hb1⟩)
 have NA:=hid hNa
 have NB:=hid hNb
 refine wp_region_grow 11 [9,10,11,12,13,14,15,16,17,18,3] [Fact.is (.pointer (some ⟨g4,0,none⟩)),Fact.is (.pointer (some ⟨g4,0,none⟩)),Fact.is (.pointer (some ⟨g4,3,none⟩)),Fact.is (.slice an (limbs A).length cn),Fact.is (.pointer (some ⟨g4,0,none⟩)),Fact.is (.pointer (some ⟨g4,0,none⟩)),Fact.is (.pointer (some ⟨g4,4,none⟩)),Fact.is (.slice bn (limbs B).length dn),Fact.is (.int .i64 (cmpI A B)),Fact.is (.bool bb),Fact.is (.bool bb)] (by kernel_rfl) (by kernel_rfl) ⟨?o0,?o1,?o2,?o3,?o4,?o5,?o6,?o7,?o8,?o9,?o10,trivial⟩ ?after
 case o0=>(refine oQ rfl ?_;intro ρ w1 R hcon hfn hρ hb hp hR;have e4:ρ (.tmp 4)=.pointer (some ⟨g4,0,none⟩):=hρ.tmp 4 rfl;clear hρ hp;unfold OpRun;go_simp;exact hR _ _ (Below.refl _ _) rfl)
 case o1=>(refine oQ rfl ?_;intro ρ w1 R hcon hfn hρ hb hp hR;have e9:ρ (.tmp 9)=_:=hp 0 9 rfl rfl;clear hρ hp;unfold OpRun;go_simp;exact hR _ _ (Below.refl _ _) rfl)
 case o2=>(refine oQ rfl ?_;intro ρ w1 R hcon hfn hρ hb hp hR;have e10:ρ (.tmp 10)=_:=hp 1 10 rfl rfl;clear hρ hp;unfold OpRun;go_simp;exact hR _ _ (Below.refl _ _) rfl)
 case o3=>(refine oQ rfl ?_;intro ρ w1 R hcon hfn hρ hb hp hR;have e11:ρ (.tmp 11)=_:=hp 2 11 rfl rfl;have j3:=(hb.cell (World.block_lt_of_cell? _ _ k3)).trans k3;clear hρ hp;unfold OpRun;go_simp;exact hR _ _ (Below.refl _ _) rfl)
 case o4=>(refine oQ rfl ?_;intro ρ w1 R hcon hfn hρ hb hp hR;have e4:ρ (.tmp 4)=.pointer (some ⟨g4,0,none⟩):=hρ.tmp 4 rfl;clear hρ hp;unfold OpRun;go_simp;exact hR _ _ (Below.refl _ _) rfl)
 case o5=>(refine oQ rfl ?_;intro ρ w1 R hcon hfn hρ hb hp hR;have e13:ρ (.tmp 13)=_:=hp 4 13 rfl rfl;clear hρ hp;unfold OpRun;go_simp;exact hR _ _ (Below.refl _ _) rfl)
 case o6=>(refine oQ rfl ?_;intro ρ w1 R hcon hfn hρ hb hp hR;have e14:ρ (.tmp 14)=_:=hp 5 14 rfl rfl;clear hρ hp;unfold OpRun;go_simp;exact hR _ _ (Below.refl _ _) rfl)
 case o7=>(refine oQ rfl ?_;intro ρ w1 R hcon hfn hρ hb hp hR;have e15:ρ (.tmp 15)=_:=hp 6 15 rfl rfl;have j4:=(hb.cell (World.block_lt_of_cell? _ _ k4)).trans k4;clear hρ hp;unfold OpRun;go_simp;exact hR _ _ (Below.refl _ _) rfl)
 case o8=>(refine oQ rfl ?_;intro ρ w1 R hcon hfn hρ hb hp hR;have e12:ρ (.tmp 12)=_:=hp 3 12 rfl rfl;have e16:ρ (.tmp 16)=_:=hp 7 16 rfl rfl;clear hρ hp;unfold OpRun;go_simp;(refine (CM.out _ _ _ _ _ (NA.out.below hb) (NB.out.below hb)).mono ?_;rintro e wn ⟨rfl,hbn⟩;exact ⟨_,rfl,hR _ _ hbn rfl⟩))
 case o9=>(refine oQ rfl ?_;intro ρ w1 R hcon hfn hρ hb hp hR;have e17:ρ (.tmp 17)=_:=hp 8 17 rfl rfl;have hx9:=HL.out;clear hρ hp;unfold OpRun;go_simp;exact hR _ _ (Below.refl _ _) rfl)
 case o10=>(refine oQ rfl ?_;intro ρ w1 R hcon hfn hρ hb hp hR;have e18:ρ (.tmp 18)=_:=hp 9 18 rfl rfl;clear hρ hp;unfold OpRun;go_simp;exact hR _ _ (Below.refl _ _) rfl)
 case after=>
  intro u wn hb hf
  have e3:u 3=_:=hf 10 3 (by omega) rfl
  clear hf
  simp only [putAll,Act.put,List.setIfInBounds_toArray,List.set_cons_zero,List.set_cons_succ,List.drop_succ_cons,List.drop_zero,List.drop_nil]
  rw [e3]
  go_wp2_with fail
  go_ret
  exact ⟨rfl,below_trans hb1 hb⟩
theorem log10_any (v:Value) (D:Dy) (pd:Int) (w:World) (hv:VD w D v) (hl:D.1.natAbs<2^60) (he: -2000≤D.2∧D.2≤2000) (hp:IsDec (dA D) (dB D) pd) (hpb: -3000≤pd∧pd≤3000):
 Calls Tryz.prog 161 #[v] w fun e w'=>e=.returned (.int .i64 pd)∧Below w.heap.size w w':=by
 obtain ⟨am,cm,rfl,hN⟩:=hv
 have lM:=limbs_short2 60 2 (by omega) _ hl
 have hbl:bl D.1.natAbs≤60:=(bl_le _ 60).2 hl
 have LN:=hid (fun w h=>natLen_any am cm D.1.natAbs w h (by omega))
 have LE:=hid (fun g c w z h hc=>less1_any g D am cm pd c w z h (by omega) (by omega) hc hp)
 obtain ⟨l,hlb⟩: ∃l,l=bl D.1.natAbs:=⟨_,rfl⟩
 rw [←hlb] at LN hbl
 obtain ⟨x,hx⟩: ∃x,x=D.2:=⟨_,rfl⟩
 rw [←hx] at LE he ⊢
 obtain ⟨p0,hp0⟩: ∃p0,p0=(((l:Int)+x-1)*30103).tdiv 100000:=⟨_,rfl⟩
 have hpb0:=tdiv_bd (((l:Int)+x-1)*30103) (by omega)
 rw [←hp0] at hpb0
 have HP0:=hid hp0.symm
 have HN:=hid hN
 have hmf: ∀fn first cap w,(Instr.makeFunc fn first cap).run Tryz.prog w=.ok (.func fn first cap) w:=fun _ _ _ _=>rfl
 have zQ:QL 67 (w.alloc (.cells #[.bool (decide (D.1<0)),.slice am (limbs D.1.natAbs).length cm,.int .i64 x] 67)) w.heap.size (decide (D.1<0)) (.slice am (limbs D.1.natAbs).length cm) x:=QL.made rfl
 have yb0:=below_alloc w (.cells #[.bool (decide (D.1<0)),.slice am (limbs D.1.natAbs).length cm,.int .i64 x] 67)
 clear hp0 hlb hx hN lM hp hl
 go_enter Tryz.func161,Tryz.ntmps161
 go_upto_region 1 with fail
 refine wp_worldZ (fun WW=>Below w.heap.size w WW∧QL 67 WW w.heap.size (decide (D.1<0)) (.slice am (limbs D.1.natAbs).length cm) x∧Ns .u32 WW am cm (limbs D.1.natAbs)) ⟨yb0,zQ,HN.out.below yb0⟩ ?_
 intro W1 ⟨y1,z1,hN1⟩
 obtain ⟨g1,hg1⟩: ∃g,g=w.heap.size:=⟨_,rfl⟩
 rw [←hg1] at z1 ⊢
 have H1:=hid z1
 have HN1:=hid hN1
 clear hg1 zQ yb0 HN hN1 z1
 refine wp_region_grow 10 [5,6,7,8,9,10,11,12,13,3] [Fact.is (.pointer (some ⟨g1,1,none⟩)),Fact.is (.slice am (limbs D.1.natAbs).length cm),Fact.is (.int .i64 (l:Int)),Fact.is (.pointer (some ⟨g1,2,none⟩)),Fact.is (.int .i64 x),Fact.is (.int .i64 ((l:Int)+x)),Fact.is (.int .i64 ((l:Int)+x-1)),Fact.is (.int .i64 (((l:Int)+x-1)*30103)),Fact.is (.int .i64 p0),Fact.is (.int .i64 p0)] (by kernel_rfl) (by kernel_rfl) ⟨?o0,?o1,?o2,?o3,?o4,?o5,?o6,?o7,?o8,?o9,trivial⟩ ?after
 case o0=>(refine oQ rfl ?_;intro ρ w1 R hcon hfn hρ hb hp hR;have e1:ρ (.tmp 1)=.pointer (some ⟨g1,0,none⟩):=hρ.tmp 1 rfl;clear hρ hp;unfold OpRun;go_simp;exact hR _ _ (Below.refl _ _) rfl)
 case o1=>(refine oQ rfl ?_;intro ρ w1 R hcon hfn hρ hb hp hR;have e5:ρ (.tmp 5)=_:=hp 0 5 rfl rfl;obtain ⟨⟨j0,j1,-⟩,j2,-⟩:=H1.out.below hb;clear hρ hp;unfold OpRun;go_simp;exact hR _ _ (Below.refl _ _) rfl)
 case o2=>(refine oQ rfl ?_;intro ρ w1 R hcon hfn hρ hb hp hR;have e6:ρ (.tmp 6)=_:=hp 1 6 rfl rfl;clear hρ hp;unfold OpRun;go_simp;(refine (LN.out _ (HN1.out.below hb)).mono ?_;rintro e wn ⟨rfl,rfl⟩;exact ⟨_,rfl,hR _ _ (Below.refl _ _) rfl⟩))
 case o3=>(refine oQ rfl ?_;intro ρ w1 R hcon hfn hρ hb hp hR;have e1:ρ (.tmp 1)=.pointer (some ⟨g1,0,none⟩):=hρ.tmp 1 rfl;clear hρ hp;unfold OpRun;go_simp;exact hR _ _ (Below.refl _ _) rfl)
 case o4=>(refine oQ rfl ?_;intro ρ w1 R hcon hfn hρ hb hp hR;have e8:ρ (.tmp 8)=_:=hp 3 8 rfl rfl;obtain ⟨⟨j0,j1,-⟩,j2,-⟩:=H1.out.below hb;clear hρ hp;unfold OpRun;go_simp;exact hR _ _ (Below.refl _ _) rfl)
 case o5=>(refine oQ rfl ?_;intro ρ w1 R hcon hfn hρ hb hp hR;have e7:ρ (.tmp 7)=_:=hp 2 7 rfl rfl;have e9:ρ (.tmp 9)=_:=hp 4 9 rfl rfl;have hw9:IntKind.i64.wrap ((l:Int)+x)=(l:Int)+x:=IntWalk.i64_in _ (by omega);clear hρ hp;unfold OpRun;go_simp;exact hR _ _ (Below.refl _ _) rfl)
 case o6=>(refine oQ rfl ?_;intro ρ w1 R hcon hfn hρ hb hp hR;have e10:ρ (.tmp 10)=_:=hp 5 10 rfl rfl;have hw9:IntKind.i64.wrap ((l:Int)+x-1)=(l:Int)+x-1:=IntWalk.i64_in _ (by omega);clear hρ hp;unfold OpRun;go_simp;exact hR _ _ (Below.refl _ _) rfl)
 case o7=>(refine oQ rfl ?_;intro ρ w1 R hcon hfn hρ hb hp hR;have e11:ρ (.tmp 11)=_:=hp 6 11 rfl rfl;have hw9:IntKind.i64.wrap (((l:Int)+x-1)*30103)=((l:Int)+x-1)*30103:=IntWalk.i64_in _ (by omega);clear hρ hp;unfold OpRun;go_simp;exact hR _ _ (Below.refl _ _) rfl)
 case o8=>(refine oQ rfl ?_;intro ρ w1 R hcon hfn hρ hb hp hR;have e12:ρ (.tmp 12)=_:=hp 7 12 rfl rfl;have hx9:=HP0.out;have hw9:IntKind.i64.wrap p0=p0:=IntWalk.i64_in _ (by omega);clear hρ hp;unfold OpRun;go_simp;exact hR _ _ (Below.refl _ _) rfl)
 case o9=>(refine oQ rfl ?_;intro ρ w1 R hcon hfn hρ hb hp hR;have e13:ρ (.tmp 13)=_:=hp 8 13 rfl rfl;clear hρ hp;unfold OpRun;go_simp;exact hR _ _ (Below.refl _ _) rfl)
 case after=>
  intro u wn hb hf
  have e3:u 3=_:=hf 9 3 (by omega) rfl
  clear hf
  simp only [putAll,Act.put,List.setIfInBounds_toArray,List.set_cons_zero,List.set_cons_succ,List.drop_succ_cons,List.drop_zero,List.drop_nil]
  rw [e3]
  have y2:=below_trans y1 hb
  have H2:=hid (H1.out.below hb)
  have HN2:=hid (HN1.out.below hb)
  obtain ⟨W2,hW2⟩: ∃W,W=wn:=⟨_,rfl⟩
  subst hW2
  clear H1 HN1 y1 hb HP0 LN
  go_wp2_with fail
  go_loopw [3] (fun s3 wr=> ∃c:Int,s3=.int .i64 c∧ -3000≤c∧c≤3000∧Below W2.heap.size W2 wr) (fun s3 _=>(intOf s3-pd).toNat)
  case atStart=>exact ⟨p0,rfl,by omega,by omega,Below.refl _ _⟩
  case round=>
   obtain ⟨c,rfl,c1,c2,hbr⟩:=hrel
   have HLc:=hid (LE.out g1 c wr (H2.out.below hbr) (HN2.out.below hbr) (by omega))
   by_cases hpc:pd<c
   ·have hwc:IntKind.i64.wrap (c-1)=c-1:=IntWalk.i64_in _ (by omega)
    have HLd:=hid (show Calls Tryz.prog 220 #[.int .i64 c,.pointer (some ⟨g1,0,none⟩)] wr fun e w'=>e=.returned (.bool true)∧Below wr.heap.size wr w' from by
     have h9:=HLc.out
     rwa [decide_eq_true hpc] at h9)
    clear HLc
    go_wp2_with (go_at_call 220;(with_reducible refine HLd.out.mono ?_);rintro en w3 ⟨rfl,hb3⟩)
    go_roundw
    case rel=>exact ⟨c-1,rfl,by omega,by omega,below_trans hbr hb3⟩
    case measure=>simp [intOf];omega
   ·have HLd:=hid (show Calls Tryz.prog 220 #[.int .i64 c,.pointer (some ⟨g1,0,none⟩)] wr fun e w'=>e=.returned (.bool false)∧Below wr.heap.size wr w' from by
     have h9:=HLc.out
     rwa [decide_eq_false hpc] at h9)
    clear HLc
    have HLE:=hid (show c≤pd by omega)
    clear hpc
    go_wp2_with (go_at_call 220;(with_reducible refine HLd.out.mono ?_);rintro en w3 ⟨rfl,hb3⟩)
    have y3:=below_trans hbr hb3
    go_loopw [3] (fun s3 wq=> ∃d:Int,s3=.int .i64 d∧ -3000≤d∧d≤pd∧Below W2.heap.size W2 wq) (fun s3 _=>(pd-intOf s3).toNat)
    case atStart=>exact ⟨c,rfl,by omega,HLE.out,y3⟩
    case round=>
     obtain ⟨d,rfl,d1,d2,hbd⟩:=hrel
     have hwd:IntKind.i64.wrap (d+1)=d+1:=IntWalk.i64_in _ (by omega)
     have HLe:=hid (LE.out g1 (d+1) _ (H2.out.below hbd) (HN2.out.below hbd) (by omega))
     by_cases hpe:pd<d+1
     ·have HLf:=hid (show Calls Tryz.prog 220 #[.int .i64 (d+1),.pointer (some ⟨g1,0,none⟩)] _ fun e w'=>e=.returned (.bool true)∧Below _ _ w' from by
       have h9:=HLe.out
       rwa [decide_eq_true hpe] at h9)
      have hde:=hid (show d=pd by omega)
      clear HLe hpe
      go_wp2_with (go_at_call 220;(with_reducible refine HLf.out.mono ?_);rintro en w4 ⟨rfl,hb4⟩)
      go_ret
      exact ⟨by rw [←hde.out];rfl,below_trans (below_trans y2 hbd) hb4⟩
     ·have HLf:=hid (show Calls Tryz.prog 220 #[.int .i64 (d+1),.pointer (some ⟨g1,0,none⟩)] _ fun e w'=>e=.returned (.bool false)∧Below _ _ w' from by
       have h9:=HLe.out
       rwa [decide_eq_false hpe] at h9)
      have HDD:=hid (show d+1≤pd by omega)
      clear HLe hpe
      go_wp2_with (go_at_call 220;(with_reducible refine HLf.out.mono ?_);rintro en w4 ⟨rfl,hb4⟩)
      go_roundw
      case rel=>exact ⟨d+1,rfl,by omega,HDD.out,below_trans hbd hb4⟩
      case measure=>have:=HDD.out;simp [intOf];omega
theorem digits10_any (v:Value) (D:Dy) (k:Nat) (mode pd:Int) (w:World) (hv:VD w D v) (hD:D.1≠0) (hl:D.1.natAbs<2^60) (he: -2000≤D.2∧D.2≤2000) (hp:IsDec (dA D) (dB D) pd) (hpb: -3000≤pd∧pd≤3000) (hk:k≤2000) (hT10:Tab10 w):
 Calls Tryz.prog 162 #[v,.int .i64 ((k:Int)+1),.int .i64 mode] w fun e w'=>e=.returned (.tuple #[.string (bsOf (sciD (sciQ (decide (D.1<0)) (dA D) (dB D) k pd mode) k)),.int .i64 (sciP (sciQ (decide (D.1<0)) (dA D) (dB D) k pd mode) k pd),.bool (sciC (dA D) (dB D) k pd)])∧Below w.heap.size w w':=by
 obtain ⟨am,cm,rfl,hN⟩:=hv
 obtain ⟨q,hq⟩: ∃q,q=sciQ (decide (D.1<0)) (dA D) (dB D) k pd mode:=⟨_,rfl⟩
 obtain ⟨q1,q2⟩:=sciQ_bd (decide (D.1<0)) (dA D) (dB D) k pd mode (dB_pos D) hp
 rw [←hq] at q1 q2 ⊢
 have lM:=limbs_short2 60 2 (by omega) _ hl
 obtain ⟨A,hA⟩: ∃A,A=dA D*tnN ((k:Int)-pd):=⟨_,rfl⟩
 obtain ⟨B,hB⟩: ∃B,B=dB D*tnN (-((k:Int)-pd)):=⟨_,rfl⟩
 have hB0:0<B:=by rw [hB];exact Nat.mul_pos (dB_pos D) (tnN_pos _)
 have hAb:(limbs A).length≤10000:=by
  obtain ⟨X,hX⟩: ∃X,X=D.2.toNat:=⟨_,rfl⟩
  obtain ⟨Y,hY⟩: ∃Y,Y=((k:Int)-pd).toNat:=⟨_,rfl⟩
  have h10:(10:Nat)^Y≤(2^4)^Y:=Nat.pow_le_pow_left (by decide) Y
  rw [←Nat.pow_mul] at h10
  refine limbs_short2 (60+X+(4*Y+1)) 10000 (by omega) A ?_
  rw [hA];unfold dA tnN
  rw [←hX,←hY,Nat.pow_add,Nat.pow_add]
  refine Nat.mul_lt_mul'' (Nat.mul_lt_mul_of_pos_right hl (Nat.two_pow_pos _)) ?_
  rw [Nat.pow_succ]
  have:=Nat.two_pow_pos (4*Y)
  omega
 have hBb:(limbs B).length≤10000:=by
  obtain ⟨X,hX⟩: ∃X,X=(-D.2).toNat:=⟨_,rfl⟩
  obtain ⟨Y,hY⟩: ∃Y,Y=(-((k:Int)-pd)).toNat:=⟨_,rfl⟩
  have h10:(10:Nat)^Y≤(2^4)^Y:=Nat.pow_le_pow_left (by decide) Y
  rw [←Nat.pow_mul] at h10
  refine limbs_short2 (X+1+(4*Y+1)) 10000 (by omega) B ?_
  rw [hB];unfold dB tnN
  rw [←hX,←hY,Nat.pow_add]
  refine Nat.mul_lt_mul'' (Nat.pow_lt_pow_right (by omega) (by omega)) ?_
  rw [Nat.pow_succ]
  have:=Nat.two_pow_pos (4*Y)
  omega
 have hqs:q=rtN (decide (D.1<0)) A B mode:=by rw [hq,hA,hB];rfl
 have hcs:sciC (dA D) (dB D) k pd=rtC A B:=by rw [hA,hB];rfl
 have hql:(limbs q).length≤30001:=by
  have h1:=(rtN_ge (decide (D.1<0)) A B mode).2
  have h2:=Nat.div_le_self A B
  have h3:q≤A+1:=by omega
  have h4:(limbs 1).length≤1:=(digs_len_le 4294967296 (by omega) 1 1).2 (by omega)
  have h5:=limbs_len_add A 1 10000 10000 hAb (by omega)
  exact Nat.le_trans (limbs_len_mono h3) (by omega)
 rw [hcs]
 have LG:=hid (show ∀w,Ns .u32 w am cm (limbs D.1.natAbs)→Calls Tryz.prog 161 #[.agg #[.bool (decide (D.1<0)),.slice am (limbs D.1.natAbs).length cm,.int .i64 D.2]] w fun e w'=>e=.returned (.int .i64 pd)∧Below w.heap.size w w' from fun w h=>log10_any _ D pd w ⟨am,cm,rfl,h⟩ hl he hp hpb)
 have SC:=hid (show ∀w,Ns .u32 w am cm (limbs D.1.natAbs)→Calls Tryz.prog 182 #[.agg #[.bool (decide (D.1<0)),.slice am (limbs D.1.natAbs).length cm,.int .i64 D.2],.int .i64 ((k:Int)-pd)] w (RetRat w (decide (D.1<0)) A B) from fun w h=>by
  rw [hA,hB]
  exact scaled_any _ D ((k:Int)-pd) w ⟨am,cm,rfl,h⟩ (by omega) (by omega) (by omega))
 have RO:=hid (fun g w h=>by
  have h9:=ratioRound_any g (decide (D.1<0)) A B mode w h (by omega) hB0 (by omega)
  rwa [←hqs] at h9)
 have DE:=hid (fun ao c w h t=>decimal_any ao c q w h (by omega) t)
 have hov:=sciD_over q k q1 q2
 have hdl:(decD q).length≤k+2:=decD_len_lt q (k+2) (Nat.lt_of_le_of_lt q2 (Nat.pow_lt_pow_right (by omega) (by omega))) (by omega)
 obtain ⟨l,hll⟩: ∃l,l=(decD q).length:=⟨_,rfl⟩
 have hsz:(bsOf (decD q)).size=l:=by rw [bs_size,hll]
 have HN:=hid hN
 have HT:=hid hT10
 have zQ:QL 67 (w.alloc (.cells #[.bool (decide (D.1<0)),.slice am (limbs D.1.natAbs).length cm,.int .i64 D.2] 67)) w.heap.size (decide (D.1<0)) (.slice am (limbs D.1.natAbs).length cm) D.2:=QL.made rfl
 have yb0:=below_alloc w (.cells #[.bool (decide (D.1<0)),.slice am (limbs D.1.natAbs).length cm,.int .i64 D.2] 67)
 have hlm:((limbs D.1.natAbs).length:Int)≠0:=by
  intro h
  have:=(limbs_nil D.1.natAbs).1 (List.length_eq_zero_iff.1 (by omega))
  omega
 have hlz:(((limbs D.1.natAbs).length:Int)==0)=false:=beq_eq_false_iff_ne.2 hlm
 have hw1:(k:Int)+1-1=(k:Int):=by omega
 have hw2:IntKind.i64.wrap ((k:Int)-pd)=(k:Int)-pd:=IntWalk.i64_in _ (by omega)
 have hw3:IntKind.i64.wrap (k:Int)=(k:Int):=IntWalk.i64_in _ (by omega)
 have hw4:IntKind.i64.wrap (pd+1)=pd+1:=IntWalk.i64_in _ (by omega)
 have HR1:=hid (show (k+1<l)→sciD q k=(decD q).take (k+1)∧sciP q k pd=pd+1 from fun h=>by
  have h2:10^(k+1)≤q:=by rw [←hov,←hll];exact h
  unfold sciD sciP
  rw [if_pos h2,if_pos h2,(sciD_take q k q1 q2 h2).1]
  exact ⟨rfl,rfl⟩)
 have HR2:=hid (show ¬(k+1<l)→sciD q k=decD q∧sciP q k pd=pd from fun h=>by
  have h2: ¬10^(k+1)≤q:=by rw [←hov,←hll];exact h
  unfold sciD sciP
  rw [if_neg h2,if_neg h2]
  exact ⟨rfl,rfl⟩)
 have hS:=fun h=>slice_to (P:=Tryz.prog) Tryz.underlying9 (decD q) ((k:Int)+1) (by omega) h
 rw [show ((k:Int)+1).toNat=k+1 by omega,←hll] at hS
 have hl2:l≤k+2:=by omega
 generalize sciD q k=RD at *
 generalize sciP q k pd=RP at *
 generalize decD q=T at *
 generalize rtC A B=CC at *
 clear hq hqs hcs hA hB hAb hBb hB0 hql q1 q2 hov hdl hN hT10 hp hD hl hll lM hlm
 go_enter Tryz.func162,Tryz.ntmps162
 go_upto_region 1 with fail
 refine wp_worldZ (fun WW=>Below w.heap.size w WW∧QL 67 WW w.heap.size (decide (D.1<0)) (.slice am (limbs D.1.natAbs).length cm) D.2∧Ns .u32 WW am cm (limbs D.1.natAbs)) ⟨yb0,zQ,HN.out.below yb0⟩ ?_
 intro W1 ⟨y1,z1,hN1⟩
 obtain ⟨g1,hg1⟩: ∃g,g=w.heap.size:=⟨_,rfl⟩
 rw [←hg1] at z1 ⊢
 have H1:=hid z1
 have HN1:=hid hN1
 obtain ⟨⟨j0,j1,-⟩,j2,-⟩:=id z1
 clear hg1 zQ yb0 HN hN1 z1
 generalize decide (D.1<0)=neg at *
 go_upto_if 37 with (first
  |(go_at_call 161;(with_reducible refine (LG.out _ HN1.out).mono ?_);rintro en w2 ⟨rfl,hb2⟩;obtain ⟨⟨i0,i1,-⟩,i2,-⟩:=H1.out.below hb2)
  |(go_at_call 182;(with_reducible refine (SC.out _ (HN1.out.below hb2)).mono ?_);rintro en w5 ⟨g5,rfl,hr5,hb5⟩)
  |(go_at_call 183;(with_reducible refine (RO.out _ _ hr5).mono ?_);rintro en w6 ⟨aq,cq,rfl,hNq,hb6⟩;have y6:=below_trans (below_trans (below_trans y1 hb2) hb5) hb6)
  |(go_at_call 166;(with_reducible refine (DE.out _ _ _ hNq (HT.out.below y6)).mono ?_);rintro en w8 ⟨rfl,hb8⟩))
 by_cases hkl:k+1<l
 ·obtain ⟨r1,r2⟩:=HR1.out hkl
  have hS2:=hS (by omega)
  have hkl2:(k:Int)+1<(l:Int):=by omega
  have R1:=hid r1
  have R2:=hid r2
  clear HR1 HR2 hS r1 r2
  go_wp2_with fail
  go_ret3
  exact ⟨by rw [R1.out,R2.out];rfl,below_trans y6 hb8⟩
 ·obtain ⟨r1,r2⟩:=HR2.out hkl
  have hkl2: ¬(k:Int)+1<(l:Int):=by omega
  have R1:=hid r1
  have R2:=hid r2
  clear HR1 HR2 hS r1 r2
  go_wp2_with fail
  go_ret3
  exact ⟨by rw [R1.out,R2.out];rfl,below_trans y6 hb8⟩
theorem power_any (p:Int) (hp: -1000000≤p∧p≤1000000) (w:World) (hT10:Tab10 w):
 Calls Tryz.prog 91 #[.int .i64 p] w fun e w'=>e=.returned (.string (bsOf (pwrT p)))∧Below w.heap.size w w':=by
 obtain ⟨n,hn⟩: ∃n,n=p.natAbs:=⟨_,rfl⟩
 have HP:=hid (show pwrT p=(if p<0 then 45 else 43)::((if n<10 then [48] else [])++decD n) by unfold pwrT;rw [←hn])
 have IT:=hid (show ∀w,Tab10 w→Calls Tryz.prog 168 #[.int .i64 (n:Int)] w fun e w'=>e=.returned (.string (bsOf (decD n)))∧Below w.heap.size w w' from fun w t=>by
  have h9:=itoa_any (n:Int) (by omega) (by omega) w t
  rwa [itoa_nat] at h9)
 have lD:(decD n).length≤8:=decD_len 7 n (by omega)
 have HT:=hid hT10
 generalize decD n=T at *
 have a1:=add_bs (P:=Tryz.prog) [43] [48] (by simp)
 have a2:=add_bs (P:=Tryz.prog) [45] [48] (by simp)
 have a3:=add_bs (P:=Tryz.prog) [43] T (by simp;omega)
 have a4:=add_bs (P:=Tryz.prog) [45] T (by simp;omega)
 have a5:=add_bs (P:=Tryz.prog) [43,48] T (by simp;omega)
 have a6:=add_bs (P:=Tryz.prog) [45,48] T (by simp;omega)
 have b1:(ByteArray.mk #[43])=bsOf [43]:=rfl
 have b2:(ByteArray.mk #[45])=bsOf [45]:=rfl
 have b3:(ByteArray.mk #[48])=bsOf [48]:=rfl
 simp only [List.cons_append,List.nil_append] at a1 a2 a3 a4 a5 a6
 clear hT10
 by_cases h0:p<0
 ·have hpn: -p=(n:Int):=by omega
  have hwn:IntKind.i64.wrap (n:Int)=(n:Int):=IntWalk.i64_in _ (by omega)
  by_cases h1:n<10
  ·have HR:=hid (show pwrT p=45::48::T by rw [HP.out,if_pos h0,if_pos h1];rfl)
   have h2:(n:Int)<10:=by omega
   clear HP hn
   go_enter Tryz.func91,Tryz.ntmps91
   go_wp2_with (go_at_call 168;(with_reducible refine (IT.out _ HT.out).mono ?_);rintro en w1 ⟨rfl,hb1⟩)
   go_ret
   exact ⟨by rw [HR.out];rfl,hb1⟩
  ·have HR:=hid (show pwrT p=45::T by rw [HP.out,if_pos h0,if_neg h1];rfl)
   have h2: ¬(n:Int)<10:=by omega
   clear HP hn
   go_enter Tryz.func91,Tryz.ntmps91
   go_wp2_with (go_at_call 168;(with_reducible refine (IT.out _ HT.out).mono ?_);rintro en w1 ⟨rfl,hb1⟩)
   go_ret
   exact ⟨by rw [HR.out];rfl,hb1⟩
 ·obtain ⟨m,rfl⟩:=Int.eq_ofNat_of_zero_le (show 0≤p by omega)
  rw [Int.natAbs_natCast] at hn
  subst hn
  by_cases h1:n<10
  ·have HR:=hid (show pwrT (n:Int)=43::48::T by rw [HP.out,if_neg h0,if_pos h1];rfl)
   have h2:(n:Int)<10:=by omega
   clear HP
   go_enter Tryz.func91,Tryz.ntmps91
   go_wp2_with (go_at_call 168;(with_reducible refine (IT.out _ HT.out).mono ?_);rintro en w1 ⟨rfl,hb1⟩)
   go_ret
   exact ⟨by rw [HR.out];rfl,hb1⟩
  ·have HR:=hid (show pwrT (n:Int)=43::T by rw [HP.out,if_neg h0,if_neg h1];rfl)
   have h2: ¬(n:Int)<10:=by omega
   clear HP
   go_enter Tryz.func91,Tryz.ntmps91
   go_wp2_with (go_at_call 168;(with_reducible refine (IT.out _ HT.out).mono ?_);rintro en w1 ⟨rfl,hb1⟩)
   go_ret
   exact ⟨by rw [HR.out];rfl,hb1⟩
end Go.Proofs.YtfphmlmgjhebjaaGreatDoor
namespace Go.Ulp
open Go.RowKit
def stp (L:List UInt8):List UInt8:=(L.reverse.dropWhile fun b=>b==48).reverse
theorem stp_nil:stp []= []:=rfl
theorem stp_zero (L:List UInt8):stp (L++ [48])=stp L:=by
 unfold stp
 rw [List.reverse_append,show ([48]:List UInt8).reverse= [48] from rfl,List.singleton_append,List.dropWhile_cons,if_pos (by decide)]
theorem stp_other (L:List UInt8) (b:UInt8) (h:b≠48):stp (L++ [b])=L++ [b]:=by
 unfold stp
 rw [List.reverse_append,show ([b]:List UInt8).reverse= [b] from rfl,List.singleton_append,List.dropWhile_cons,if_neg (by simpa using h),List.reverse_cons,List.reverse_reverse]
theorem snoc_cases (L:List UInt8):L= []∨ ∃M b,L=M++ [b]:=by
 rcases List.eq_nil_or_concat L with h|⟨M,b,h⟩
 ·exact .inl h
 ·exact .inr ⟨M,b,by rw [h,List.concat_eq_append]⟩
theorem stp_val: ∀(n:Nat) (L:List UInt8),L.length=n→dvl (stp L)*10^(L.length-(stp L).length)=dvl L∧(stp L).length≤L.length:=by
 intro n
 induction n with
 |zero=>
  intro L h
  obtain rfl:=List.length_eq_zero_iff.1 h
  rw [stp_nil];exact ⟨by simp,by simp⟩
 |succ n ih=>
  intro L h
  rcases snoc_cases L with rfl|⟨M,b,rfl⟩
  ·exact absurd h (by simp)
  ·by_cases hb:b=48
   ·subst hb
    rw [List.length_append,List.length_singleton] at h
    obtain ⟨h1,h2⟩:=ih M (by omega)
    rw [stp_zero,List.length_append,List.length_singleton,show M.length+1-(stp M).length=(M.length-(stp M).length)+1 by omega,Nat.pow_succ,←Nat.mul_assoc,h1]
    refine ⟨?_,by omega⟩
    unfold dvl
    rw [dvA_app,dvA_cons];rfl
   ·rw [stp_other M b hb,Nat.sub_self,Nat.pow_zero,Nat.mul_one]
    exact ⟨rfl,Nat.le_refl _⟩
theorem stp_dg {L:List UInt8} (h:AllDg L):AllDg (stp L):=fun b hb=>by
 unfold stp at hb
 rw [List.mem_reverse] at hb
 exact h b (List.mem_reverse.1 ((List.dropWhile_sublist _).mem hb))
theorem stp_head {L:List UInt8} {b:UInt8} {r:List UInt8} (h:L=b::r) (hb:b≠48): ∃q,stp L=b::q:=by
 subst h
 suffices H: ∀(n:Nat) (r:List UInt8),r.length=n→ ∃q,stp (b::r)=b::q from H _ r rfl
 intro n
 induction n with
 |zero=>
  intro r h
  obtain rfl:=List.length_eq_zero_iff.1 h
  exact ⟨[],by rw [show [b]= []++ [b] from rfl,stp_other _ _ hb]⟩
 |succ n ih=>
  intro r h
  rcases snoc_cases r with rfl|⟨M,c,rfl⟩
  ·exact absurd h (by simp)
  ·rw [List.length_append,List.length_singleton] at h
   by_cases hc:c=48
   ·subst hc
    rw [←List.cons_append,stp_zero];exact ih M (by omega)
   ·rw [←List.cons_append,stp_other _ _ hc];exact ⟨M++ [c],rfl⟩
theorem decD_dg (n:Nat):AllDg (decD n):=by
 induction n using Nat.strongRecOn with
 |ind n ih=>
  by_cases h:n<10
  ·rw [decD_small h]
   intro b hb
   rw [List.mem_singleton] at hb;subst hb
   unfold isDg
   rw [decide_eq_true_eq,UInt8.toNat_ofNat'];omega
  ·rw [decD_big h]
   intro b hb
   rcases List.mem_append.1 hb with h1|h1
   ·exact ih (n/10) (by omega) b h1
   ·rw [List.mem_singleton] at h1;subst h1
    unfold isDg
    rw [decide_eq_true_eq,UInt8.toNat_ofNat'];omega
theorem dvl_decD (n:Nat):dvl (decD n)=n:=by
 induction n using Nat.strongRecOn with
 |ind n ih=>
  by_cases h:n<10
  ·rw [decD_small h,dvl_cons]
   show (UInt8.ofNat (48+n)).toNat-48=n
   rw [UInt8.toNat_ofNat'];omega
  ·rw [decD_big h]
   have h1:=ih (n/10) (by omega)
   unfold dvl at h1 ⊢
   rw [dvA_app,h1,dvA_cons]
   show n/10*10+((UInt8.ofNat (48+n%10)).toNat-48)=n
   rw [UInt8.toNat_ofNat'];omega
theorem decD_head (n:Nat) (h:0<n): ∃b r,decD n=b::r∧b≠48:=by
 cases hd:decD n with
 |nil=>exact absurd hd (decD_ne n)
 |cons b r=>
  refine ⟨b,r,rfl,fun h48=>?_⟩
  have h1:=decD_ge n h
  have h2:=dvl_decD n
  have h3:=decD_dg n
  rw [hd] at h1 h2 h3
  rw [dvl_cons,h48,show (48:UInt8).toNat-48=0 from rfl] at h2
  have h4:=dvl_lt r h3.tail
  rw [List.length_cons,Nat.add_sub_cancel] at h1
  have h5:dvl r=n:=h2
  omega
theorem stp_decD (n:Nat) (h:0<n):dvl (stp (decD n))*10^((decD n).length-(stp (decD n)).length)=n∧1≤(stp (decD n)).length∧(stp (decD n)).length≤(decD n).length∧AllDg (stp (decD n))∧(stp (decD n)).dropWhile (fun b=>b==48)=stp (decD n):=by
 obtain ⟨b,r,h1,h2⟩:=decD_head n h
 obtain ⟨q,h3⟩:=stp_head h1 h2
 obtain ⟨h4,h5⟩:=stp_val _ (decD n) rfl
 rw [dvl_decD] at h4
 refine ⟨h4,by rw [h3];simp,h5,stp_dg (decD_dg n),?_⟩
 rw [h3,List.dropWhile_cons,if_neg (by simpa using h2)]
def shA (D:Dy) (k:Nat) (pd:Int):Nat:=dA D*tnN ((k:Int)-pd)
def shB (D:Dy) (k:Nat) (pd:Int):Nat:=dB D*tnN (-((k:Int)-pd))
def shL (D:Dy) (k:Nat) (pd:Int):Nat:=shA D k pd/shB D k pd
def shR (D:Dy) (k:Nat) (pd:Int):Nat:=shA D k pd%shB D k pd
theorem shB_pos (D:Dy) (k:Nat) (pd:Int):0<shB D k pd:=Nat.mul_pos (dB_pos D) (tnN_pos _)
def shU (D:Dy) (E f k:Nat) (pd:Int):Bool:=
 decide (shR D k pd≠0)&&fitP E f (shL D k pd+1) (pd-k)&&!(fitP E f (shL D k pd) (pd-k)&&(decide (2*shR D k pd<shB D k pd)||(decide (2*shR D k pd=shB D k pd)&&decide (shL D k pd%2=0))))
def shZ (D:Dy) (E f k:Nat) (pd:Int):Nat:=if shU D E f k pd=true then shL D k pd+1 else shL D k pd
def shS (D:Dy) (E f k:Nat) (pd:Int):Bool:=fitP E f (shL D k pd) (pd-k)||fitP E f (shL D k pd+1) (pd-k)
def IsVal (D:Dy) (E f:Nat):Prop:=dA D*2^1074=lmM E f*2^lmH E*dB D
theorem p1074: ∃P:Nat,0<P∧P=2^1074:=⟨_,Nat.two_pow_pos 1074,rfl⟩
theorem sh_half (D:Dy) (E f k:Nat) (pd:Int) (hv:IsVal D E f) (hf:f<4503599627370496):
 cmpT (2*shL D k pd+1) (pd-k) (4*lmM E f) (lmX E+1)= -cmpI ((2*shR D k pd:Nat):Int) ((shB D k pd:Nat):Int):=by
 obtain ⟨x,hx⟩: ∃x:Int,x=(k:Int)-pd:=⟨_,rfl⟩
 have e0:pd-k= -x:=by omega
 obtain ⟨T,hT⟩: ∃T,T=tnN (-x):=⟨_,rfl⟩
 obtain ⟨B,hB⟩: ∃B,B=tnN x:=⟨_,rfl⟩
 have hTp:0<T:=by rw [hT];exact tnN_pos _
 have hBp:0<B:=by rw [hB];exact tnN_pos _
 have hbp:=dB_pos D
 have h1:=cmpT_at (2*shL D k pd+1) (pd-k) (4*lmM E f) (lmH E+1) (4*(lmM E f*2^lmH E)) ((2*shL D k pd+1)*T) B (by rw [hT,e0];rfl) (by rw [hB,e0,Int.neg_neg];rfl) (by
  rw [Nat.pow_succ]
  generalize 2^lmH E=Q
  rw [Nat.mul_assoc 4,←Nat.mul_assoc (lmM E f) Q 2];omega)
 rw [show lmX E+1=((lmH E+1:Nat):Int)-1076 by unfold lmX;omega,h1]
 refine congrArg (fun z:Int=> -z) ?_
 have hL:shB D k pd*shL D k pd+shR D k pd=shA D k pd:=Nat.div_add_mod _ _
 have hBv:shB D k pd=dB D*T:=by unfold shB;rw [hT,hx]
 have hAv:shA D k pd=dA D*B:=by unfold shA;rw [hB,hx]
 unfold IsVal at hv
 generalize shL D k pd=L at *
 generalize shR D k pd=R at *
 rw [hBv] at hL ⊢
 rw [hAv] at hL
 generalize lmM E f*2^lmH E=V at *
 obtain ⟨P,hKp,hP⟩:=p1074
 rw [←hP] at hv ⊢
 clear hP h1 e0
 generalize dA D=a at *
 generalize dB D=b at *
 rw [←cmpI_nat_scale (4*V*B) (2*((2*L+1)*T*P)) b hbp]
 have e1:4*V*B*b=4*(b*T*L+R)*P:=by
  rw [hL]
  have:V*b*B=a*P*B:=by rw [hv]
  have h2:4*V*B*b=4*(V*b*B):=by simp only [Nat.mul_assoc,Nat.mul_left_comm,Nat.mul_comm]
  have h3:4*(a*B)*P=4*(a*P*B):=by simp only [Nat.mul_assoc,Nat.mul_left_comm,Nat.mul_comm]
  rw [h2,h3,this]
 have e2:2*((2*L+1)*T*P)*b=2*(2*(b*T*L)+b*T)*P:=by
  have h2:2*((2*L+1)*T*P)*b=2*((2*L+1)*(b*T))*P:=by simp only [Nat.mul_assoc,Nat.mul_left_comm,Nat.mul_comm]
  rw [h2,Nat.add_mul,Nat.one_mul,Nat.mul_assoc 2 L,Nat.mul_comm L]
 rw [e1,e2,cmpI_nat_scale _ _ P hKp]
 have e3:4*(b*T*L+R)=2*(2*(b*T*L))+2*(2*R):=by omega
 have e4:2*(2*(b*T*L)+b*T)=2*(2*(b*T*L))+2*(b*T):=by omega
 rw [e3,e4]
 unfold cmpI
 generalize b*T*L=q
 by_cases h5:2*R<b*T
 ·rw [if_pos (by omega),if_pos (by omega)]
 ·by_cases h6:b*T<2*R
  ·rw [if_neg (by omega),if_pos (by omega),if_neg (by omega),if_pos (by omega)]
  ·rw [if_neg (by omega),if_neg (by omega),if_neg (by omega),if_neg (by omega)]
theorem sh_exact (D:Dy) (E f k:Nat) (pd:Int) (hv:IsVal D E f) (hf:f<4503599627370496) (hr:1≤E*4503599627370496+f) (h0:shR D k pd=0):fitP E f (shL D k pd) (pd-k)=true:=by
 rw [fitP_iff E f _ _ hf hr]
 obtain ⟨r,hr2⟩: ∃r,r=E*4503599627370496+f:=⟨_,rfl⟩
 have hrv:rvi r=lmM E f*2^lmH E:=by rw [hr2];exact (rvi_lm E f hf).1
 obtain ⟨x,hx⟩: ∃x:Int,x=(k:Int)-pd:=⟨_,rfl⟩
 have e0:pd-k= -x:=by omega
 have hA2:10^(pd-k).toNat=tnN (-x):=by rw [e0];rfl
 have hB2:10^(-(pd-k)).toNat=tnN x:=by rw [e0,Int.neg_neg];rfl
 rw [hA2,hB2,←hr2]
 have hTp:=tnN_pos (-x)
 have hBp:=tnN_pos x
 have hbp:=dB_pos D
 have hL:shB D k pd*shL D k pd+shR D k pd=shA D k pd:=Nat.div_add_mod _ _
 rw [h0,Nat.add_zero] at hL
 have hBv:shB D k pd=dB D*tnN (-x):=by unfold shB;rw [hx]
 have hAv:shA D k pd=dA D*tnN x:=by unfold shA;rw [hx]
 rw [hBv,hAv] at hL
 unfold IsVal at hv
 rw [←hrv] at hv
 generalize shL D k pd=L at *
 generalize tnN (-x)=T at *
 generalize tnN x=B at *
 generalize dA D=a at *
 generalize dB D=b at *
 have key:L*T*2^1074=rvi r*B:=by
  obtain ⟨P,hKp,hP⟩:=p1074
  rw [←hP] at hv ⊢
  apply Nat.eq_of_mul_eq_mul_right hbp
  have h1:L*T*P*b=b*T*L*P:=by simp only [Nat.mul_assoc,Nat.mul_left_comm,Nat.mul_comm]
  have h2:rvi r*B*b=rvi r*b*B:=by rw [Nat.mul_right_comm]
  rw [h1,hL,h2,←hv,Nat.mul_right_comm]
 have g1:=rdM_nat 1074 (L*T) B (r-1)
 have g2:=rdM_nat 1074 (L*T) B r
 rw [show ((r-1:Nat):Int)=(r:Int)-1 by omega,show r-1+1=r by omega] at g1
 rw [key] at g1 g2
 have m1:rvi (r-1)*B<rvi r*B:=Nat.mul_lt_mul_of_pos_right (rvi_mono (by omega)) hBp
 have m2:rvi r*B<rvi (r+1)*B:=Nat.mul_lt_mul_of_pos_right (rvi_mono (by omega)) hBp
 unfold fitR
 rw [g1,g2]
 left
 exact ⟨(cmpI_ng _ _).2 (by omega),(cmpI_ps _ _).2 (by omega)⟩
theorem sh_prog (D:Dy) (E f k:Nat) (pd:Int) (hv:IsVal D E f) (hf:f<4503599627370496) (hr:1≤E*4503599627370496+f) (a c:Bool) (ha:a=fitP E f (shL D k pd) (pd-k)) (hc:c=fitP E f (shL D k pd+1) (pd-k)) (half:Int) (hh:half=cmpT (2*shL D k pd+1) (pd-k) (4*lmM E f) (lmX E+1)):
 (if (a&&c)=true then (decide (half<0)||(decide (half=0)&&decide (shL D k pd%2=1))) else if a=true then false else c)=shU D E f k pd:=by
 rw [sh_half D E f k pd hv hf] at hh
 have hx:=sh_exact D E f k pd hv hf hr
 rw [←ha] at hx
 unfold shU
 rw [←ha,←hc]
 have hB:=shB_pos D k pd
 generalize shL D k pd=L at *
 generalize shR D k pd=R at *
 generalize shB D k pd=B at *
 have c1:=cmpI_ps ((2*R:Nat):Int) ((B:Nat):Int)
 have c2:=cmpI_eq_zero ((2*R:Nat):Int) ((B:Nat):Int)
 have h1:(half<0)↔B<2*R:=by rw [hh];omega
 have h2:(half=0)↔2*R=B:=by rw [hh];omega
 by_cases h0:R=0
 ·have:=hx h0
  subst this
  rw [Bool.eq_iff_iff]
  cases c<;>simp [h0,h1,h2]<;>omega
 ·rw [Bool.eq_iff_iff]
  cases a<;>cases c<;>simp [h0,h1,h2]<;>omega
theorem sh_some (D:Dy) (E f k:Nat) (pd:Int) (hv:IsVal D E f) (hf:f<4503599627370496) (hr:1≤E*4503599627370496+f) (h0:shR D k pd=0):shS D E f k pd=true:=by
 unfold shS;rw [sh_exact D E f k pd hv hf hr h0];rfl
theorem sh_ends (D:Dy) (k:Nat) (pd:Int) (hD: -1074≤D.2) (hk:pd+1074≤(k:Int)):shR D k pd=0:=by
 unfold shR shA shB
 apply Nat.mod_eq_zero_of_dvd
 obtain ⟨x,hx⟩: ∃x:Nat,(x:Int)=(k:Int)-pd:=⟨((k:Int)-pd).toNat,by omega⟩
 rw [←hx]
 unfold tnN dB
 rw [show (-(x:Int)).toNat=0 by omega,Int.toNat_natCast,Nat.pow_zero,Nat.mul_one]
 refine Nat.dvd_mul_left_of_dvd ?_ _
 have h10:(10:Nat)^x=5^x*2^x:=by rw [←Nat.mul_pow]
 rw [h10]
 exact Nat.dvd_mul_left_of_dvd (Nat.pow_dvd_pow 2 (by omega)) _
end Go.Ulp
