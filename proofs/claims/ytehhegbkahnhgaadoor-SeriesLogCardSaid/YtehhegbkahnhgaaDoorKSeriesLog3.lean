/- SeriesLog: what the proof leans on, part 3 (Gp15 Gp16 Gp17 Gp18 Gp19 Gp20 Gp21). -/
import Derived.Test.YtehhegbkahnhgaaDoorKSeriesLog2
set_option linter.unusedVariables false
set_option linter.unusedSimpArgs false
namespace Go.Ulp
def ExpTo (u:Nat→Rat) (D:Rat):Prop:=(∀N,0≤u N)∧(∀N T,EE (u N) T≤D)∧ ∀e:Rat,0<e→ ∃N0,∀N,N0≤N→ ∃T0,∀T,T0≤T→D-e≤EE (u N) T
def Near (u v:Nat→Rat):Prop:= ∀e:Rat,0<e→ ∃N0,∀N,N0≤N→ -e≤u N-v N∧u N-v N≤e
theorem EE_diff {x y:Rat} (hx:0≤x) (h:x≤y): ∀T,y-x≤EE y (T+2)-EE x (T+2)
 |0=>by rw [EE_two,EE_two];grind
 |T+1=>by
  have ih:=EE_diff hx h T
  have a:=ep_mono hx h (T+2)
  have e1:EE y (T+1+2)=EE y (T+2)+ep y (T+2):=rfl
  have e2:EE x (T+1+2)=EE x (T+2)+ep x (T+2):=rfl
  rw [e1,e2];grind
theorem ExpTo.uniq {u v:Nat→Rat} {D:Rat} (h:ExpTo u D) (k:ExpTo v D):Near u v:=by
 intro e he
 obtain ⟨h0,h1,h2⟩:=h
 obtain ⟨k0,k1,k2⟩:=k
 obtain ⟨A,hA⟩:=h2 e he
 obtain ⟨B,hB⟩:=k2 e he
 refine ⟨A+B,fun N hN=>?_⟩
 obtain ⟨S,hS⟩:=hA N (by omega)
 obtain ⟨T,hT⟩:=hB N (by omega)
 have a:=hS (S+T+2) (by omega)
 have b:=hT (S+T+2) (by omega)
 have c:=h1 N (S+T+2)
 have d:=k1 N (S+T+2)
 constructor
 ·by_cases g:u N≤v N
  ·have:=EE_diff (h0 N) g (S+T);grind
  ·grind
 ·by_cases g:v N≤u N
  ·have:=EE_diff (k0 N) g (S+T);grind
  ·grind
theorem ExpTo.one_le {u:Nat→Rat} {D:Rat} (h:ExpTo u D):1≤D:=by
 have a:=h.2.1 0 1
 have b:=EE_ge_one (h.1 0) (Nat.le_refl 1)
 grind
theorem ExpTo.zero:ExpTo (fun _=>0) 1:=by
 have e: ∀T,EE 0 (T+1)=1:=by
  intro T
  induction T with
  |zero=>unfold EE;simp only [sumQ,ep];grind
  |succ T ih=>
   unfold EE at ih ⊢
   rw [sumQ_succ,ih,ep];grind
 refine ⟨fun _=>by grind,fun N T=>?_,fun e' he=>⟨0,fun N _=>⟨1,fun T hT=>?_⟩⟩⟩
 ·have a:=EE_le 0 (by grind) (show T≤T+1 by omega)
  rw [e T] at a;exact a
 ·rw [show T=T-1+1 by omega,e];grind
theorem ExpTo.add {u v:Nat→Rat} {D E:Rat} (h:ExpTo u D) (k:ExpTo v E):ExpTo (fun N=>u N+v N) (D*E):=by
 have hD:=h.one_le
 have hE:=k.one_le
 obtain ⟨h0,h1,h2⟩:=h
 obtain ⟨k0,k1,k2⟩:=k
 refine ⟨fun N=>by have:=h0 N;have:=k0 N;grind,fun N T=>?_,fun e he=>?_⟩
 ·have a:=EE_add_le (u N) (v N) (h0 N) (k0 N) T
  have b:=mul_le_mul2 (EE_nonneg _ (h0 N) T) (h1 N T) (EE_nonneg _ (k0 N) T) (k1 N T)
  grind
 ·obtain ⟨e',he'⟩: ∃e':Rat,e'=e/(D+E):=⟨_,rfl⟩
  have hs:0<D+E:=by grind
  have hm:(D+E)*e'=e:=by rw [he'];grind
  have he0:0<e':=Rat.not_le.1 (fun hle=>by
   have:=Rat.mul_le_mul_of_nonneg_left hle (show 0≤D+E by grind)
   grind)
  obtain ⟨t,ht⟩: ∃t:Rat,t=if e'≤1 then e' else 1:=⟨_,rfl⟩
  have t0:0<t:=by rw [ht];split<;>grind
  have t1:t≤1:=by rw [ht];split<;>grind
  have t2:t≤e':=by rw [ht];split<;>grind
  obtain ⟨A,hA⟩:=h2 t t0
  obtain ⟨B,hB⟩:=k2 t t0
  refine ⟨A+B,fun N hN=>?_⟩
  obtain ⟨S,hS⟩:=hA N (by omega)
  obtain ⟨T,hT⟩:=hB N (by omega)
  refine ⟨(S+T)+(S+T),fun R hR=>?_⟩
  have a:=hS (S+T) (by omega)
  have b:=hT (S+T) (by omega)
  have c:=EE_add_ge (u N) (v N) (h0 N) (k0 N) (S+T)
  have d:=EE_le (u N+v N) (by have:=h0 N;have:=k0 N;grind) hR
  have f:=mul_le_mul2 (show 0≤D-t by grind) a (show 0≤E-t by grind) b
  have g:=Rat.mul_le_mul_of_nonneg_left t2 (show 0≤D+E by grind)
  have tt:=Rat.mul_nonneg (show 0≤t by grind) (show 0≤t by grind)
  grind
theorem ExpTo.smul {u:Nat→Rat} {D:Rat} (h:ExpTo u D): ∀k:Nat,ExpTo (fun N=>(k:Rat)*u N) (D^k)
 |0=>by
  have e:(fun N=>((0:Nat):Rat)*u N)=fun _=>0:=by
   funext N
   have:((0:Nat):Rat)=0:=rfl
   rw [this];grind
  rw [e,Rat.pow_zero];exact ExpTo.zero
 |k+1=>by
  have ih:=(ExpTo.smul h k).add h
  have e:(fun N=>((k+1:Nat):Rat)*u N)=fun N=>(k:Rat)*u N+u N:=by
   funext N;rw [cast_succ];grind
  rw [e,Rat.pow_succ];exact ih
theorem pow_half (z:Rat) (hz:0≤z) (h:2*z≤1): ∀n:Nat,((n+1:Nat):Rat)*z^n≤1
 |0=>by rw [Rat.pow_zero];have:((0+1:Nat):Rat)=1:=rfl
        rw [this];grind
 |n+1=>by
  have ih:=pow_half z hz h n
  have p:=Rat.pow_nonneg (n:=n) hz
  have a:=Rat.mul_le_mul_of_nonneg_left h p
  have b:=natle (show n+1+1≤2*(n+1) by omega)
  rw [cast_mul] at b
  have o:((2:Nat):Rat)=2:=rfl
  rw [o] at b
  have c:=Rat.mul_le_mul_of_nonneg_right b (show 0≤z^(n+1) from Rat.pow_nonneg hz)
  have d:=Rat.mul_le_mul_of_nonneg_left a (Rat.natCast_nonneg (a:=n+1))
  rw [Rat.pow_succ] at c ⊢
  grind
theorem lnN_to (z D:Rat) (hz:0≤z) (h:2*z≤1) (hD:(1-z)*D=1+z):ExpTo (lnN z) D:=by
 have hz1:z≤1:=by grind
 have hp:0<1-z:=by grind
 refine ⟨lnN_nonneg z hz,fun N T=>?_,fun e he=>?_⟩
 ·have a:=ln_up z hz hz1 N T
  exact Rat.le_of_mul_le_mul_left (show (1-z)*EE (lnN z N) T≤(1-z)*D by grind) hp
 ·-- 4 z^(2N) <= e as soon as N is great
  obtain ⟨n,hn⟩: ∃n:Nat,4≤((n+1:Nat):Rat)*e:=by
   obtain ⟨n,hn⟩: ∃n:Nat,4/e≤(n:Rat):=⟨(4/e).ceil.toNat,by
    have a:4/e≤(((4/e).ceil:Int):Rat):=Rat.le_ceil
    have b:(4/e).ceil≤(((4/e).ceil.toNat:Nat):Int):=by omega
    have c:=Rat.intCast_le_intCast.2 b
    rw [Rat.intCast_natCast] at c
    grind⟩
   refine ⟨n,?_⟩
   have a:=Rat.mul_le_mul_of_nonneg_right hn (show 0≤e by grind)
   rw [cast_succ]
   have b:4/e*e=4:=by grind
   grind
  refine ⟨n+1,fun N hN=>⟨2*N,fun T hT=>?_⟩⟩
  have a:=ln_low z hz hz1 N T (by omega) hT
  have b:=pow_half z hz h (2*N)
  have p:=Rat.pow_nonneg (n:=2*N) hz
  have c:=Rat.mul_le_mul_of_nonneg_right (natle (show n+1≤2*N+1 by omega)) p
  have d:((n+1:Nat):Rat)*(4*z^(2*N))≤((n+1:Nat):Rat)*e:=by grind
  have f:4*z^(2*N)≤e:=Rat.le_of_mul_le_mul_left d (nat_pos n)
  have g:(1-z)*(D-e)≤(1-z)*EE (lnN z N) T:=by
   have k:=Rat.mul_le_mul_of_nonneg_right (show 1≤2*(1-z) by grind) (show 0≤e by grind)
   grind
  exact Rat.le_of_mul_le_mul_left g hp
theorem Near.add {u v u' v':Nat→Rat} (h:Near u v) (k:Near u' v'):Near (fun N=>u N+u' N) (fun N=>v N+v' N):=by
 intro e he
 obtain ⟨A,hA⟩:=h (e/2) (by grind)
 obtain ⟨B,hB⟩:=k (e/2) (by grind)
 refine ⟨A+B,fun N hN=>?_⟩
 have a:=hA N (by omega)
 have b:=hB N (by omega)
 constructor<;>grind
theorem Near.neg {u v:Nat→Rat} (h:Near u v):Near (fun N=> -u N) (fun N=> -v N):=by
 intro e he
 obtain ⟨A,hA⟩:=h e he
 exact ⟨A,fun N hN=>by have a:=hA N hN;constructor<;>grind⟩
theorem Near.symm {u v:Nat→Rat} (h:Near u v):Near v u:=by
 intro e he
 obtain ⟨A,hA⟩:=h e he
 exact ⟨A,fun N hN=>by have a:=hA N hN;constructor<;>grind⟩
theorem Near.refl (u:Nat→Rat):Near u u:=fun e he=>⟨0,fun N _=>by constructor<;>grind⟩
theorem Near.trans {u v w:Nat→Rat} (h:Near u v) (k:Near v w):Near u w:=by
 intro e he
 obtain ⟨A,hA⟩:=h (e/2) (by grind)
 obtain ⟨B,hB⟩:=k (e/2) (by grind)
 refine ⟨A+B,fun N hN=>?_⟩
 have a:=hA N (by omega)
 have b:=hB N (by omega)
 constructor<;>grind
theorem Near.smul {u v:Nat→Rat} (h:Near u v) (k:Nat):Near (fun N=>(k:Rat)*u N) (fun N=>(k:Rat)*v N):=by
 induction k with
 |zero=>
  intro e he
  refine ⟨0,fun N _=>?_⟩
  have:((0:Nat):Rat)=0:=rfl
  rw [this]
  constructor<;>grind
 |succ k ih=>
  have:=ih.add h
  intro e he
  obtain ⟨A,hA⟩:=this e he
  refine ⟨A,fun N hN=>?_⟩
  have a:=hA N hN
  rw [cast_succ]
  constructor<;>grind
def LogTo (u:Nat→Rat) (D:Rat):Prop:= ∃(a b:Nat→Rat) (A B:Rat),ExpTo a A∧ExpTo b B∧A=D*B∧ ∀N,u N=a N-b N
theorem LogTo.uniq {u v:Nat→Rat} {D:Rat} (h:LogTo u D) (k:LogTo v D):Near u v:=by
 obtain ⟨a,b,A,B,ha,hb,e,hu⟩:=h
 obtain ⟨a',b',A',B',ha',hb',e',hv⟩:=k
 have x:=ha.add hb'
 have y:=ha'.add hb
 have ee:A*B'=A'*B:=by rw [e,e'];grind
 rw [ee] at x
 have n:=x.uniq y
 intro ε hε
 obtain ⟨N0,hN⟩:=n ε hε
 refine ⟨N0,fun N h=>?_⟩
 have:=hN N h
 rw [hu,hv];constructor<;>grind
theorem LogTo.of_exp {u:Nat→Rat} {D:Rat} (h:ExpTo u D):LogTo u D:=⟨u,fun _=>0,D,1,h,ExpTo.zero,by grind,fun N=>by grind⟩
theorem LogTo.neg {u:Nat→Rat} {D E:Rat} (h:LogTo u D) (e:D*E=1):LogTo (fun N=> -u N) E:=by
 obtain ⟨a,b,A,B,ha,hb,e1,hu⟩:=h
 exact ⟨b,a,B,A,hb,ha,by rw [e1];grind,fun N=>by show -u N=_;rw [hu];grind⟩
theorem LogTo.add {u v:Nat→Rat} {D E:Rat} (h:LogTo u D) (k:LogTo v E):LogTo (fun N=>u N+v N) (D*E):=by
 obtain ⟨a,b,A,B,ha,hb,e,hu⟩:=h
 obtain ⟨a',b',A',B',ha',hb',e',hv⟩:=k
 exact ⟨_,_,_,_,ha.add ha',hb.add hb',by rw [e,e'];grind,fun N=>by show u N+v N=a N+a' N-(b N+b' N);rw [hu,hv];grind⟩
theorem LogTo.smul {u:Nat→Rat} {D:Rat} (h:LogTo u D) (k:Nat):LogTo (fun N=>(k:Rat)*u N) (D^k):=by
 obtain ⟨a,b,A,B,ha,hb,e,hu⟩:=h
 refine ⟨_,_,_,_,ha.smul k,hb.smul k,?_,fun N=>by show (k:Rat)*u N=(k:Rat)*a N-(k:Rat)*b N;rw [hu];grind⟩
 rw [e]
 clear ha hb hu e
 induction k with
 |zero=>rw [Rat.pow_zero,Rat.pow_zero,Rat.pow_zero];grind
 |succ k ih=>rw [Rat.pow_succ,Rat.pow_succ,Rat.pow_succ,ih];grind
theorem LogTo.congr {u v:Nat→Rat} {D E:Rat} (h:LogTo u D) (e: ∀N,v N=u N) (hD:D=E):LogTo v E:=by
 obtain ⟨a,b,A,B,ha,hb,e1,hu⟩:=h
 exact ⟨a,b,A,B,ha,hb,by rw [←hD];exact e1,fun N=>by rw [e,hu]⟩
theorem EE_arg {x y:Rat} (hx:0≤x) (h:x≤y) (T:Nat):EE x T≤EE y T:=sumQ_le T (fun i _=>ep_mono hx h i)
theorem EE_eps {y:Rat} (hy:0≤y) (h:2*y≤1) (T:Nat):EE y T≤1+2*y:=by
 have hi:=EE_rest y hy h 1 T
 have e1:ep y 1=y:=by
  have h:=ep_succ y 0
  have e1:((0+1:Nat):Rat)=1:=rfl
  have e0:ep y 0=1:=rfl
  rw [e1,e0] at h
  grind
 rw [show 1+1=2 from rfl,EE_two,e1] at hi
 grind
theorem mul_pos' {a b:Rat} (ha:0<a) (hb:0<b):0<a*b:=Rat.mul_pos ha hb
theorem log_near {u:Nat→Rat} {D:Rat} (h:LogTo u D) (hD:0<D) (r ε:Rat) (hr:0≤r) (hε0:0<ε) (hε:2*ε≤1) (N0:Nat) (hN: ∀N,N0≤N→ -ε≤u N-r∧u N-r≤ε):
 ∃S0,∀T,S0≤T→EE r T≤D*(1+4*ε)∧D≤EE r T*(1+4*ε):=by
 obtain ⟨a,b,A,B,ha,hb,eA,hu⟩:=h
 have A1:=ha.one_le
 have B1:=hb.one_le
 obtain ⟨a0,a1,a2⟩:=ha
 obtain ⟨b0,b1,b2⟩:=hb
 obtain ⟨δ,hδ⟩: ∃δ:Rat,δ=ε/2:=⟨_,rfl⟩
 have hδ2:2*δ=ε:=by rw [hδ];grind
 obtain ⟨Na,ha3⟩:=a2 δ (by grind)
 obtain ⟨Nb,hb3⟩:=b2 δ (by grind)
 obtain ⟨Ta,hTa⟩:=ha3 (N0+Na+Nb) (by omega)
 obtain ⟨Tb,hTb⟩:=hb3 (N0+Na+Nb) (by omega)
 have hn:=hN (N0+Na+Nb) (by omega)
 rw [hu] at hn
 have p0:=a0 (N0+Na+Nb)
 have q0:=b0 (N0+Na+Nb)
 have p1:=a1 (N0+Na+Nb)
 have q1:=b1 (N0+Na+Nb)
 generalize a (N0+Na+Nb)=x at *
 generalize b (N0+Na+Nb)=y at *
 refine ⟨Ta+Tb+1,fun T hT=>?_⟩
 have E1:=EE_ge_one hr (show 1≤T by omega)
 have ta:=hTa T (by omega)
 have tb:=hTb T (by omega)
 constructor
 ·have s1:=EE_add_ge r y hr q0 T
  have s2:=EE_arg (show 0≤r+y by grind) (show r+y≤x+ε by grind) (T+T)
  have s3:=EE_add_le x ε p0 (by grind) (T+T)
  have s4:=mul_le_mul2 (EE_nonneg x p0 (T+T)) (p1 (T+T)) (EE_nonneg ε (by grind) (T+T)) (EE_eps (by grind) hε (T+T))
  have s5:=Rat.mul_le_mul_of_nonneg_left tb (show 0≤EE r T by grind)
  generalize EE r T=E at *
  have s6:E*(B-δ)≤D*B*(1+2*ε):=by rw [←eA];grind
  have s7:B*(1+2*ε)≤(B-δ)*(1+4*ε):=by
   have k1:=Rat.mul_le_mul_of_nonneg_left B1 (show (0:Rat)≤ε by grind)
   have k2:=Rat.mul_le_mul_of_nonneg_left hε (show (0:Rat)≤δ by grind)
   grind
  have s8:=Rat.mul_le_mul_of_nonneg_left s7 (show (0:Rat)≤D by grind)
  apply Rat.le_of_mul_le_mul_left _ (show 0<B-δ by grind)
  grind
 ·have s2:=EE_arg p0 (show x≤(y+r)+ε by grind) T
  have s3:=EE_add_le (y+r) ε (by grind) (by grind) T
  have s4:=EE_add_le y r q0 hr T
  have s5:=mul_le_mul2 (EE_nonneg (y+r) (by grind) T) s4 (EE_nonneg ε (by grind) T) (EE_eps (by grind) hε T)
  have s6:=Rat.mul_le_mul_of_nonneg_right (q1 T) (show 0≤EE r T by grind)
  have s7:=Rat.mul_le_mul_of_nonneg_right s6 (show 0≤1+2*ε by grind)
  generalize EE r T=E at *
  have s8:A-δ≤B*E*(1+2*ε):=by grind
  have BE:1≤B*E:=by
   have:=mul_le_mul2 (show (0:Rat)≤1 by grind) B1 (show (0:Rat)≤1 by grind) E1
   grind
  have k:=Rat.mul_le_mul_of_nonneg_left BE (show (0:Rat)≤ε by grind)
  apply Rat.le_of_mul_le_mul_left _ (show 0<B by grind)
  grind
theorem EE_zero (T:Nat):EE 0 (T+1)=1:=by
 induction T with
 |zero=>unfold EE;simp only [sumQ,ep];grind
 |succ T ih=>
  unfold EE at ih ⊢
  rw [sumQ_succ,ih,ep];grind
theorem EE_three:EE 1 3=5/2:=by
 have h:=ep_succ 1 1
 have e2:EE 1 3=EE 1 2+ep 1 2:=rfl
 have e1:ep 1 1=1:=by
  have h:=ep_succ 1 0
  have o:((0+1:Nat):Rat)=1:=rfl
  have e0:ep 1 0=1:=rfl
  rw [o,e0] at h
  grind
 have o:((1+1:Nat):Rat)=2:=rfl
 rw [o,e1] at h
 rw [e2,EE_two]
 grind
theorem pow_le_pow' {a b:Rat} (ha:0≤a) (h:a≤b): ∀n:Nat,a^n≤b^n
 |0=>by rw [Rat.pow_zero,Rat.pow_zero];grind
 |n+1=>by
  rw [Rat.pow_succ,Rat.pow_succ]
  exact mul_le_mul2 (Rat.pow_nonneg ha) (pow_le_pow' ha h n) ha h
theorem pow_add' (x:Rat) (a:Nat): ∀b:Nat,x^(a+b)=x^a*x^b
 |0=>by rw [Nat.add_zero,Rat.pow_zero,Rat.mul_one]
 |b+1=>by rw [←Nat.add_assoc,Rat.pow_succ,Rat.pow_succ,pow_add' x a b];grind
theorem pow_mul' (x:Rat) (a:Nat): ∀k:Nat,x^(a*k)=(x^a)^k
 |0=>by rw [Nat.mul_zero,Rat.pow_zero,Rat.pow_zero]
 |k+1=>by rw [Nat.mul_succ,pow_add',Rat.pow_succ,pow_mul' x a k]
theorem EE_big (k:Nat): ∃T',(2:Rat)^(5*k)≤EE (((4*k:Nat):Rat)*1) T':=by
 obtain ⟨T',hT⟩:=EE_pow_ge 1 (by grind) (4*k) 3
 refine ⟨T',Rat.le_trans ?_ hT⟩
 rw [EE_three,pow_mul',pow_mul']
 refine pow_le_pow' (Rat.pow_nonneg (by grind)) ?_ k
 grind
theorem xb_low (a pl κ H N:Nat) (hpl:pl≤1300) (hab:a≤2^κ*2^pl):a^H*(2^pl)^N≤2^(κ*H+1300*N)*(2^pl)^H:=by
 have h1:(2^pl)^N≤2^(1300*N):=by
  rw [←Nat.pow_mul];exact Nat.pow_le_pow_right (by omega) (Nat.mul_le_mul_right _ hpl)
 have h2:a^H≤2^(κ*H)*(2^pl)^H:=by
  rw [Nat.pow_mul,←Nat.mul_pow];exact Nat.pow_le_pow_left hab H
 rw [Nat.pow_add,Nat.mul_assoc,Nat.mul_comm (2^(1300*N)),←Nat.mul_assoc]
 exact Nat.mul_le_mul h2 h1
theorem log_gap0 {u:Nat→Rat} {D:Rat} (h:LogTo u D) (hD:0<D) (cc dd c pl q g:Nat) (hdd:(dd:Rat)*D=(cc:Rat)) (hd0:0<dd) (hd:dd≤2^6000) (hD1:D≠1) (hq:q=4290) (hDq:D≤(2:Rat)^q) (hpl:pl≤1300) (r ε:Rat) (hr:(2:Rat)^pl*r=(c:Rat)) (hε0:0<ε) (hg:g=GG+4300) (hεg:(2:Rat)^g*ε≤1) (N0:Nat) (hN: ∀N,N0≤N→ -ε≤u N-r∧u N-r≤ε):False:=by
 have Pp:=pow2_pos pl
 have hr0:0≤r:=Rat.not_lt.1 (fun h=>by
  have:=Rat.mul_lt_mul_of_pos_left h Pp
  have:=Rat.natCast_nonneg (a:=c)
  grind)
 have GGge:6000<GG:=by decide
 obtain ⟨G,hG⟩: ∃G,G=GG:=⟨_,rfl⟩
 rw [←hG] at hg GGge
 have PG:=pow2_pos G
 have Pq:=pow2_pos q
 have e10:(2:Rat)^g=2^G*2^q*1024:=by
  rw [show g=G+q+10 by omega,pow2_add,pow2_add,show (2:Rat)^10=1024 by rw [←two_cast];rfl]
 have one_q:(1:Rat)≤2^q:=by have:=pow2_mono (show 0≤q by omega);rwa [Rat.pow_zero] at this
 have one_G:(1:Rat)≤2^G:=by have:=pow2_mono (show 0≤G by omega);rwa [Rat.pow_zero] at this
 rw [e10] at hεg
 clear hg e10
 have qe:1024*(2^q*ε)≤1:=by
  have a:=Rat.mul_le_mul_of_nonneg_right one_G (show 0≤2^q*ε*1024 from by
   have:=mul_pos' Pq hε0
   grind)
  grind
 have he:1024*ε≤1:=by
  have a:=Rat.mul_le_mul_of_nonneg_right one_q (show 0≤ε by grind)
  grind
 obtain ⟨S0,hS⟩:=log_near h hD r ε hr0 hε0 (by grind) N0 hN
 have hS2: ∀T,S0≤T→ -1≤(2:Rat)^G*(EE r T-D)∧(2:Rat)^G*(EE r T-D)≤1:=by
  intro T hT
  obtain ⟨a,b⟩:=hS T hT
  generalize EE r T=E at *
  have k1:=Rat.mul_le_mul_of_nonneg_right hDq (show 0≤ε by grind)
  have k0:E≤2*D:=by
   have:=Rat.mul_le_mul_of_nonneg_left (show 4*ε≤1 by grind) (show 0≤D by grind)
   grind
  have k2:=Rat.mul_le_mul_of_nonneg_right k0 (show 0≤ε by grind)
  have up:E-D≤8*(2^q*ε):=by grind
  have lo:D-E≤8*(2^q*ε):=by grind
  have m1:=Rat.mul_le_mul_of_nonneg_left up (show (0:Rat)≤2^G by grind)
  have m2:=Rat.mul_le_mul_of_nonneg_left lo (show (0:Rat)≤2^G by grind)
  constructor<;>grind
 have ddp:(0:Rat)<(dd:Rat):=Rat.natCast_pos.2 hd0
 by_cases hc:c=0
 ·have r0:r=0:=by
   have z:((0:Nat):Rat)=0:=rfl
   rw [hc,z] at hr
   have:=Rat.mul_eq_zero.1 hr
   grind
  obtain ⟨a,b⟩:=hS2 (S0+1) (by omega)
  rw [r0,EE_zero] at a b
  have hne:dd≠cc:=fun e=>hD1 (by
   rw [←e] at hdd
   have:(dd:Rat)*(D-1)=0:=by grind
   have:=Rat.mul_eq_zero.1 this
   grind)
  have dG:(dd:Rat)<2^G:=by
   obtain ⟨z,hz⟩: ∃z,z=6000:=⟨_,rfl⟩
   rw [←hz] at hd
   have k1:=natle hd
   rw [two_cast] at k1
   have k3:=pow2_mono (show z+1≤G by omega)
   rw [pow2_succ] at k3
   have:=pow2_pos z
   generalize (2:Rat)^z=X at *
   grind
  rcases Nat.lt_or_gt_of_ne hne with k|k
  ·have k1:=natle (show dd+1≤cc from k)
   rw [cast_succ] at k1
   have m:=Rat.mul_le_mul_of_nonneg_left (show (1:Rat)≤dd*(D-1) by grind) (show (0:Rat)≤2^G by grind)
   have n:=Rat.mul_le_mul_of_nonneg_left a (show (0:Rat)≤dd by grind)
   grind
  ·have k1:=natle (show cc+1≤dd from k)
   rw [cast_succ] at k1
   have m:=Rat.mul_le_mul_of_nonneg_left (show (1:Rat)≤dd*(1-D) by grind) (show (0:Rat)≤2^G by grind)
   have n:=Rat.mul_le_mul_of_nonneg_left b (show (0:Rat)≤dd by grind)
   grind
 ·obtain ⟨uu,hu⟩: ∃uu,uu=1303:=⟨_,rfl⟩
  obtain ⟨k,hk⟩: ∃k,k=1024:=⟨_,rfl⟩
  have x1:2^pl≤c*2^uu:=by
   have a:2^pl≤2^uu:=Nat.pow_le_pow_right (by omega) (by omega)
   exact Nat.le_trans a (Nat.le_mul_of_pos_left _ (by omega))
  have x2:c≤2^12*2^pl:=by
   apply Nat.le_of_not_lt
   intro hlt
   have h1:=Rat.natCast_lt_natCast.2 hlt
   rw [cast_mul,two_cast,two_cast,←hr] at h1
   have h2:((4*k:Nat):Rat)*1≤r:=by
    apply Rat.le_of_mul_le_mul_left _ Pp
    have e:((4*k:Nat):Rat)=2^12:=by rw [hk,←two_cast]
    rw [e];grind
   obtain ⟨T',hT⟩:=EE_big k
   have h3:=EE_arg (by have:=Rat.natCast_nonneg (a:=4*k);grind) h2 (S0+T')
   have h4:=EE_le (((4*k:Nat):Rat)*1) (by have:=Rat.natCast_nonneg (a:=4*k);grind) (show T'≤S0+T' by omega)
   obtain ⟨a,-⟩:=hS (S0+T') (by omega)
   generalize EE r (S0+T')=E at *
   have k0:E≤2*2^q:=by
    have:=Rat.mul_le_mul_of_nonneg_left (show 4*ε≤1 by grind) (show 0≤D by grind)
    grind
   have k1:=pow2_mono (show q+2≤5*k by omega)
   rw [pow2_add,show (2:Rat)^2=4 by rw [←two_cast];rfl] at k1
   grind
  rw [hG] at hS2
  exact gap c (2^pl) cc dd (Nat.two_pow_pos pl) r D (by rw [two_cast];exact hr) hdd uu hu x1 x2 (fun κ H N hH hab=>xb_low c pl κ H N hpl hab) hd0 hd S0 hS2
def LnFar (u:Nat→Rat) (pl g:Nat):Prop:= ∀(c:Int) (r ε:Rat),(2:Rat)^pl*r=(c:Rat)→0<ε→(2:Rat)^g*ε≤1→ ∀N0,(∀N,N0≤N→ -ε≤u N-r∧u N-r≤ε)→False
theorem dyQ_pos' {m:Nat} (h:0<m) (x0:Int):0<dyQ m x0:=by
 have P:=pow2_pos (-x0).toNat
 have Q:=pow2_pos x0.toNat
 have e:=dyQ_eq m x0
 have hm:(0:Rat)<(m:Rat):=Rat.natCast_pos.2 h
 have f:=Rat.mul_pos hm Q
 rw [←e] at f
 have a:=dyQ_nonneg m x0
 generalize dyQ m x0=y at *
 have hne:y≠0:=by
  intro hz
  rw [hz,Rat.mul_zero] at f
  exact absurd f (by grind)
 grind
theorem log_far {u:Nat→Rat} (m:Nat) (e:Int) (h:LogTo u (dyQ m e)) (h0:0<m) (hm:m<2^1280) (he: -3000≤e∧e≤3000) (h1:dyQ m e≠1) (pl g:Nat) (hpl:pl≤1300) (hg:g=GG+4300):LnFar u pl g:=by
 intro c r ε hr hε0 hεg N0 hN
 have hD:=dyQ_pos' h0 e
 have eq:=dyQ_eq m e
 obtain ⟨s,hs⟩: ∃s,s=(-e).toNat:=⟨_,rfl⟩
 obtain ⟨k,hk⟩: ∃k,k=e.toNat:=⟨_,rfl⟩
 rw [←hs,←hk] at eq
 have hs3:s≤3000:=by omega
 have hk3:k≤3000:=by omega
 obtain ⟨q,hq⟩: ∃q,q=4290:=⟨_,rfl⟩
 obtain ⟨z,hz⟩: ∃z,z=6000:=⟨_,rfl⟩
 have Ps:=pow2_pos s
 have Pk:=pow2_pos k
 have mk:m*2^k≤2^q:=by
  obtain ⟨y,hy⟩: ∃y,y=1280:=⟨_,rfl⟩
  rw [←hy] at hm
  refine Nat.le_trans (Nat.mul_le_mul (Nat.le_of_lt hm) (Nat.le_refl _)) ?_
  rw [←Nat.pow_add];exact Nat.pow_le_pow_right (by omega) (by omega)
 clear hm
 have zq:2^q≤2^z:=Nat.pow_le_pow_right (by omega) (by omega)
 have one_s:(1:Rat)≤2^s:=by have:=pow2_mono (show 0≤s by omega);rwa [Rat.pow_zero] at this
 have mq:=natle mk
 rw [cast_mul,two_cast,two_cast] at mq
 rcases Int.lt_or_le c 0 with hc|hc
 ·-- below: the reciprocal
  obtain ⟨E,hE⟩: ∃E:Rat,E=1/dyQ m e:=⟨_,rfl⟩
  have hDE:dyQ m e*E=1:=by rw [hE];grind
  have hE0:0<E:=Rat.not_le.1 (fun h=>by
   have:=Rat.mul_le_mul_of_nonneg_left h (show 0≤dyQ m e by grind)
   grind)
  have hfr:((m*2^k:Nat):Rat)*E=((2^s:Nat):Rat):=by
   rw [cast_mul,two_cast,two_cast,←eq];grind
  have m1:(1:Rat)≤((m*2^k:Nat):Rat):=by
   have:0<m*2^k:=Nat.mul_pos h0 (Nat.two_pow_pos k)
   exact natle (show 1≤m*2^k from this)
  have hEq:E≤2^q:=by
   have a:=Rat.mul_le_mul_of_nonneg_right m1 (show 0≤E by grind)
   rw [hfr,two_cast] at a
   have b:=pow2_mono (show s≤q by omega)
   grind
  have hE1:E≠1:=fun e1=>h1 (by rw [e1] at hDE;grind)
  obtain ⟨c',hc'⟩: ∃c':Nat,c= -(c':Int):=⟨c.natAbs,by omega⟩
  refine log_gap0 (h.neg hDE) hE0 (2^s) (m*2^k) c' pl q g hfr (Nat.mul_pos h0 (Nat.two_pow_pos k)) ?_ hE1 hq hEq hpl (-r) ε ?_ hε0 hg hεg N0 (fun N h=>?_)
  ·rw [←hz];exact Nat.le_trans mk zq
  ·rw [hc'] at hr
   have:((-(c':Int):Int):Rat)= -(c':Rat):=by rw [Rat.intCast_neg];rfl
   rw [this] at hr
   grind
  ·have:=hN N h
   constructor<;>grind
 ·obtain ⟨c',rfl⟩:=Int.eq_ofNat_of_zero_le hc
  have hfr:((2^s:Nat):Rat)*dyQ m e=((m*2^k:Nat):Rat):=by
   rw [cast_mul,two_cast,two_cast];exact eq
  have hDq:dyQ m e≤2^q:=by
   have a:=Rat.mul_le_mul_of_nonneg_right one_s (show 0≤dyQ m e by grind)
   grind
  refine log_gap0 h hD (m*2^k) (2^s) c' pl q g hfr (Nat.two_pow_pos s) ?_ h1 hq hDq hpl r ε hr hε0 hg hεg N0 hN
  rw [←hz];exact Nat.pow_le_pow_right (by omega) (by omega)
def InS (D:Nat) (u:Nat→Rat) (x:Int×Int):Prop:= ∃N0,∀N,N0≤N→(x.1:Rat)≤(D:Rat)*u N∧(D:Rat)*u N≤(x.2:Rat)
def IsLf (u:Nat→Rat) (pl:Nat) (z:Int):Prop:= ∃(δ:Rat) (N0:Nat),0<δ∧ ∀N,N0≤N→(z:Rat)≤2^pl*u N∧2^pl*u N+δ≤((z+1:Int):Rat)
theorem lf_le {u v:Nat→Rat} (h:Near u v) {pl:Nat} {z w:Int} (a:IsLf u pl z) (b:IsLf v pl w):z≤w:=by
 obtain ⟨δ,N0,h0,h1⟩:=a
 obtain ⟨δ',M0,k0,k1⟩:=b
 have P:=pow2_pos pl
 obtain ⟨ε,hε⟩: ∃ε:Rat,ε=δ'/(2*2^pl):=⟨_,rfl⟩
 have e2:2*(2^pl*ε)=δ':=by rw [hε];grind
 have e0:0<ε:=Rat.not_le.1 (fun h=>by
  have:=Rat.mul_le_mul_of_nonneg_left h (show (0:Rat)≤2^pl by grind)
  grind)
 obtain ⟨L0,hL⟩:=h ε e0
 obtain ⟨-,l⟩:=hL (N0+M0+L0) (by omega)
 obtain ⟨x,-⟩:=h1 (N0+M0+L0) (by omega)
 obtain ⟨-,y⟩:=k1 (N0+M0+L0) (by omega)
 have m:=Rat.mul_le_mul_of_nonneg_left l (show (0:Rat)≤2^pl by grind)
 have:(z:Rat)<((w+1:Int):Rat):=by grind
 have:=Rat.intCast_lt_intCast.1 this
 omega
theorem lf_uniq {u v:Nat→Rat} (h:Near u v) {pl:Nat} {z w:Int} (a:IsLf u pl z) (b:IsLf v pl w):z=w:=Int.le_antisymm (lf_le h a b) (lf_le h.symm b a)
theorem int_two (x:Int) (n:Nat):((x*((2^n:Nat):Int):Int):Rat)=(x:Rat)*2^n:=by
 rw [Rat.intCast_mul,Rat.intCast_natCast,two_cast]
theorem lf_of {D:Nat} (hD:0<D) {u:Nat→Rat} {x:Int×Int} (h:InS D u x) (pl:Nat) (z:Int) (h1:x.1*((2^pl:Nat):Int)/(D:Int)=z) (h2:x.2*((2^pl:Nat):Int)/(D:Int)=z):IsLf u pl z:=by
 obtain ⟨N0,h⟩:=h
 have P:(0:Rat)<(D:Rat):=Rat.natCast_pos.2 hD
 have L:=pow2_pos pl
 have c1:z*(D:Int)≤x.1*((2^pl:Nat):Int):=by rw [←h1];exact Int.ediv_mul_le _ (by omega)
 have c2:x.2*((2^pl:Nat):Int)+1≤(z+1)*(D:Int):=by rw [←h2];exact Int.lt_ediv_add_one_mul_self _ (by omega)
 have d1:=Rat.intCast_le_intCast.2 c1
 have d2:=Rat.intCast_le_intCast.2 c2
 rw [int_two,Rat.intCast_mul,Rat.intCast_natCast] at d1
 rw [Rat.intCast_add,int_two,Rat.intCast_mul,Rat.intCast_natCast] at d2
 have o:((1:Int):Rat)=1:=rfl
 rw [o] at d2
 obtain ⟨δ,hδ⟩: ∃δ:Rat,δ=1/(D:Rat):=⟨_,rfl⟩
 have hδ2:(D:Rat)*δ=1:=by rw [hδ];grind
 refine ⟨δ,N0,?_,fun N hN=>?_⟩
 ·exact Rat.not_le.1 (fun h=>by
   have:=Rat.mul_le_mul_of_nonneg_left h (show (0:Rat)≤D by grind)
   grind)
 ·obtain ⟨a,b⟩:=h N hN
  have a2:=Rat.mul_le_mul_of_nonneg_left a (show (0:Rat)≤2^pl by grind)
  have b2:=Rat.mul_le_mul_of_nonneg_left b (show (0:Rat)≤2^pl by grind)
  constructor
  ·apply Rat.le_of_mul_le_mul_left _ P
   grind
  ·apply Rat.le_of_mul_le_mul_left _ P
   grind
theorem sep_lf {D g pl:Nat} (hD:0<D) {u:Nat→Rat} {x:Int×Int} (hF:LnFar u pl g) (h:InS D u x) (h01:x.1≤x.2) (W:Nat) (hW:x.2≤x.1+((2^W:Nat):Int)) (hp:2^(W+g)≤D):x.1*((2^pl:Nat):Int)/(D:Int)=x.2*((2^pl:Nat):Int)/(D:Int):=by
 apply Classical.byContradiction
 intro hne
 have hDi:(0:Int)<(D:Int):=by omega
 have two:(0:Int)≤((2^pl:Nat):Int):=Int.natCast_nonneg _
 have mono:x.1*((2^pl:Nat):Int)/(D:Int)≤x.2*((2^pl:Nat):Int)/(D:Int):=Int.ediv_le_ediv hDi (Int.mul_le_mul_of_nonneg_right h01 two)
 obtain ⟨c,hc⟩: ∃c,c=x.1*((2^pl:Nat):Int)/(D:Int)+1:=⟨_,rfl⟩
 have c1:x.1*((2^pl:Nat):Int)<c*(D:Int):=by rw [hc];exact Int.lt_ediv_add_one_mul_self _ hDi
 have c2:c*(D:Int)≤x.2*((2^pl:Nat):Int):=Int.le_trans (Int.mul_le_mul_of_nonneg_right (show c≤x.2*((2^pl:Nat):Int)/(D:Int) by omega) (by omega)) (Int.ediv_mul_le _ (by omega))
 have P:(0:Rat)<(D:Rat):=Rat.natCast_pos.2 hD
 have L:=pow2_pos pl
 obtain ⟨r,hr⟩: ∃r:Rat,r=(c:Rat)/2^pl:=⟨_,rfl⟩
 have hr2:(2:Rat)^pl*r=(c:Rat):=by rw [hr];grind
 obtain ⟨N0,hN0⟩:=h
 have d1:=Rat.intCast_lt_intCast.2 c1
 have d2:=Rat.intCast_le_intCast.2 c2
 have w:=Rat.intCast_le_intCast.2 hW
 rw [int_two,Rat.intCast_mul,Rat.intCast_natCast] at d1
 rw [int_two,Rat.intCast_mul,Rat.intCast_natCast] at d2
 rw [Rat.intCast_add,Rat.intCast_natCast,two_cast] at w
 rw [←hr2] at d1 d2
 have f1:(x.1:Rat)<D*r:=Rat.lt_of_mul_lt_mul_left (show (2:Rat)^pl*(x.1:Rat)<2^pl*(D*r) by grind) (by grind)
 have f2:D*r≤(x.2:Rat):=Rat.le_of_mul_le_mul_left (show (2:Rat)^pl*(D*r)≤2^pl*(x.2:Rat) by grind) L
 have q:(2:Rat)^g*2^W≤(D:Rat):=by
  have:=natle hp
  rw [Nat.add_comm,Nat.pow_add,cast_mul,two_cast,two_cast] at this
  exact this
 have Gp:=pow2_pos g
 have Wp:=pow2_pos W
 obtain ⟨ε,hε⟩: ∃ε:Rat,ε=2^W/(D:Rat):=⟨_,rfl⟩
 have e2:(D:Rat)*ε=2^W:=by rw [hε];grind
 have e0:0<ε:=Rat.not_le.1 (fun h=>by
  have:=Rat.mul_le_mul_of_nonneg_left h (show (0:Rat)≤D by grind)
  grind)
 refine hF c r ε hr2 e0 ?_ N0 (fun N hN=>?_)
 ·apply Rat.le_of_mul_le_mul_left _ P
  have e3:(D:Rat)*(2^g*ε)=2^g*(D*ε):=by grind
  rw [e3,e2,Rat.mul_one]
  exact q
 ·obtain ⟨a,b⟩:=hN0 N hN
  constructor
  ·apply Rat.le_of_mul_le_mul_left _ P
   grind
  ·apply Rat.le_of_mul_le_mul_left _ P
   grind
def InV (D:Nat) (v:Rat) (x:PP):Prop:=(x.1:Rat)≤(D:Rat)*v∧(D:Rat)*v≤(x.2:Rat)
theorem InV.mul {D:Nat} (hD:0<D) {v w:Rat} {x y m:PP} (hv:0≤v) (hw:0≤w) (hx:InV D v x) (hy:InV D w y) (h1:m.1≤x.1*y.1/D) (h2:cdiv (x.2*y.2) D≤m.2):InV D (v*w) m:=by
 have P:(0:Rat)<(D:Rat):=Rat.natCast_pos.2 hD
 obtain ⟨a,b⟩:=hx
 obtain ⟨c,d⟩:=hy
 have lo:=mul_le_mul2 (Rat.natCast_nonneg (a:=x.1)) a (Rat.natCast_nonneg (a:=y.1)) c
 have hi:=mul_le_mul2 (Rat.mul_nonneg (show (0:Rat)≤D by grind) hv) b (Rat.mul_nonneg (show (0:Rat)≤D by grind) hw) d
 have f1:=fdiv_cast (x.1*y.1) D
 have f2:=cdiv_cast (x.2*y.2) D hD
 rw [cast_mul] at f1 f2
 have g1:=natle h1
 have g2:=natle h2
 generalize ((x.1*y.1/D:Nat):Rat)=X at *
 generalize ((cdiv (x.2*y.2) D:Nat):Rat)=Y at *
 have k1:=Rat.mul_le_mul_of_nonneg_right g1 (show (0:Rat)≤D by grind)
 have k2:=Rat.mul_le_mul_of_nonneg_right g2 (show (0:Rat)≤D by grind)
 constructor
 ·apply Rat.le_of_mul_le_mul_left _ P
  grind
 ·apply Rat.le_of_mul_le_mul_left _ P
  grind
theorem cdiv_up (a b:Nat):cdiv a b≤a/b+1:=by unfold cdiv;split<;>omega
theorem InV.tm {p:Nat} {v w:Rat} {x y:PP} (hv:0≤v) (hw:0≤w) (hx:InV (2^p) v x) (hy:InV (2^p) w y):InV (2^p) (v*w) (tmP x y p):=InV.mul (Nat.two_pow_pos p) hv hw hx hy (Nat.le_refl _) (Nat.le_refl _)
theorem InV.bm {D:Nat} (hD:0<D) {v w:Rat} {x y:PP} (hv:0≤v) (hw:0≤w) (hx:InV D v x) (hy:InV D w y):InV D (v*w) (bMul x y D):=InV.mul hD hv hw hx hy (Nat.le_refl _) (cdiv_up _ _)
theorem InV.ov {D:Nat} {v:Rat} {x m:PP} (n:Nat) (hn:0<n) (hx:InV D v x) (h1:m.1≤x.1/n) (h2:cdiv x.2 n≤m.2):InV D (v/(n:Rat)) m:=by
 have P:(0:Rat)<(n:Rat):=Rat.natCast_pos.2 hn
 obtain ⟨a,b⟩:=hx
 have f1:=fdiv_cast x.1 n
 have f2:=cdiv_cast x.2 n hn
 have g1:=natle h1
 have g2:=natle h2
 generalize ((x.1/n:Nat):Rat)=X at *
 generalize ((cdiv x.2 n:Nat):Rat)=Y at *
 have k1:=Rat.mul_le_mul_of_nonneg_right g1 (show (0:Rat)≤n by grind)
 have k2:=Rat.mul_le_mul_of_nonneg_right g2 (show (0:Rat)≤n by grind)
 have e:(n:Rat)*(v/(n:Rat))=v:=by grind
 constructor
 ·apply Rat.le_of_mul_le_mul_left _ P
  have:(n:Rat)*((D:Rat)*(v/(n:Rat)))=(D:Rat)*v:=by grind
  rw [this];grind
 ·apply Rat.le_of_mul_le_mul_left _ P
  have:(n:Rat)*((D:Rat)*(v/(n:Rat)))=(D:Rat)*v:=by grind
  rw [this];grind
theorem InV.add {D:Nat} {v w:Rat} {x y:PP} (hx:InV D v x) (hy:InV D w y):InV D (v+w) (plP x y):=by
 obtain ⟨a,b⟩:=hx
 obtain ⟨c,d⟩:=hy
 show ((x.1+y.1:Nat):Rat)≤_∧_≤((x.2+y.2:Nat):Rat)
 rw [Rat.natCast_add,Rat.natCast_add]
 constructor<;>grind
def zp (ζ:Rat):Nat→Rat
 |0=>ζ
 |k+1=>zp ζ k*(ζ*ζ)
def sS (ζ:Rat):Nat→Rat
 |0=>ζ
 |k+1=>sS ζ k+zp ζ (k+1)/((2*k+3:Nat):Rat)
theorem zp_nonneg {ζ:Rat} (h:0≤ζ): ∀k,0≤zp ζ k
 |0=>h
 |k+1=>Rat.mul_nonneg (zp_nonneg h k) (Rat.mul_nonneg h h)
theorem zp_pow (ζ:Rat): ∀k,zp ζ k=ζ^(2*k+1)
 |0=>by show ζ=ζ^(0+1);rw [Rat.pow_succ,Rat.pow_zero];grind
 |k+1=>by
  show zp ζ k*(ζ*ζ)=_
  rw [zp_pow ζ k,show 2*(k+1)+1=2*k+1+1+1 by omega,Rat.pow_succ ζ (2*k+1+1),Rat.pow_succ ζ (2*k+1)]
  grind
theorem lnN_sS (ζ:Rat): ∀k,lnN ζ (k+1)=2*sS ζ k:=by
 have e: ∀N,lnN ζ N=sumQ (at' atA ζ) (2*N):=fun N=>by
  unfold lnN
  exact sumQ_congr _ (fun i hi=>by unfold at' atN;rw [if_pos hi])
 intro k
 rw [e]
 induction k with
 |zero=>
  show sumQ (at' atA ζ) 2=2*ζ
  simp only [sumQ]
  unfold at' atA
  rw [if_neg (by omega),if_pos (by omega)]
  have o:((1:Nat):Rat)=1:=rfl
  rw [o,show (1:Nat)=0+1 from rfl,Rat.pow_succ,Rat.pow_zero]
  grind
 |succ k ih=>
  rw [show 2*(k+1+1)=2*(k+1)+1+1 by omega,sumQ_succ,sumQ_succ,ih]
  have a:at' atA ζ (2*(k+1))=0:=by unfold at' atA;rw [if_neg (by omega)];grind
  have b:at' atA ζ (2*(k+1)+1)=2*(zp ζ (k+1)/((2*k+3:Nat):Rat)):=by
   unfold at' atA
   rw [if_pos (by omega),zp_pow,show 2*(k+1)+1=2*k+3 by omega]
   grind
  rw [a,b]
  show _=2*(sS ζ k+zp ζ (k+1)/((2*k+3:Nat):Rat))
  grind
theorem sS_tail {ζ:Rat} (h:0≤ζ) (h2:2*ζ≤1) (k:Nat): ∀j,3*sS ζ (k+j)+zp ζ (k+j)≤3*sS ζ k+zp ζ k
 |0=>by show 3*sS ζ k+zp ζ k≤_;grind
 |j+1=>by
  have ih:=sS_tail h h2 k j
  have n:=zp_nonneg h (k+j)
  have e:sS ζ (k+(j+1))=sS ζ (k+j)+zp ζ (k+j+1)/((2*(k+j)+3:Nat):Rat):=rfl
  have e2:zp ζ (k+(j+1))=zp ζ (k+j)*(ζ*ζ):=rfl
  have e3:zp ζ (k+j+1)=zp ζ (k+j)*(ζ*ζ):=rfl
  rw [e,e2,e3]
  have z2:4*(ζ*ζ)≤1:=by
   have a:=mul_le_mul2 (show 0≤2*ζ by grind) h2 (show 0≤2*ζ by grind) h2
   grind
  have m:=Rat.mul_le_mul_of_nonneg_left z2 n
  have m2:4*(zp ζ (k+j)*(ζ*ζ))≤zp ζ (k+j):=by grind
  have zz:0≤zp ζ (k+j)*(ζ*ζ):=Rat.mul_nonneg n (Rat.mul_nonneg h h)
  have o3:(3:Rat)≤((2*(k+j)+3:Nat):Rat):=natle (show 3≤2*(k+j)+3 by omega)
  generalize ((2*(k+j)+3:Nat):Rat)=d at *
  generalize zp ζ (k+j)*(ζ*ζ)=y at *
  have q:3*(y/d)≤y:=by
   have dp:0<d:=by grind
   have:d*(y/d)=y:=by grind
   have y0:0≤y/d:=div_nonneg' zz dp
   have:=Rat.mul_le_mul_of_nonneg_right o3 y0
   grind
  grind
theorem sS_mono {ζ:Rat} (h:0≤ζ) (k:Nat): ∀j,sS ζ k≤sS ζ (k+j)
 |0=>Rat.le_refl
 |j+1=>by
  have ih:=sS_mono h k j
  have e:sS ζ (k+(j+1))=sS ζ (k+j)+zp ζ (k+j+1)/((2*(k+j)+3:Nat):Rat):=rfl
  have:=div_nonneg' (zp_nonneg h (k+j+1)) (nat_pos (2*(k+j)+2))
  rw [e]
  grind
theorem at_brk {D:Nat} {ζ:Rat} (h:0≤ζ) (h2:2*ζ≤1) {pw sm:PP} (k c:Nat) (hpw:InV D (zp ζ k) pw) (hsm:InV D (sS ζ k) sm) (h3:pw.2≤2) (hc:1≤c): ∀N,k+1≤N→((2*sm.1:Nat):Rat)≤(D:Rat)*lnN ζ N∧(D:Rat)*lnN ζ N≤((2*(sm.2+c):Nat):Rat):=by
 intro N hN
 obtain ⟨j,rfl⟩: ∃j,N=k+j+1:=⟨N-k-1,by omega⟩
 rw [lnN_sS]
 have t:=sS_tail h h2 k j
 have m:=sS_mono h k j
 have z:=zp_nonneg h (k+j)
 obtain ⟨a,b⟩:=hsm
 obtain ⟨-,d⟩:=hpw
 have p2:=natle h3
 have c1:=natle hc
 have D0:(0:Rat)≤(D:Rat):=Rat.natCast_nonneg
 have o2:((2:Nat):Rat)=2:=rfl
 have o1:((1:Nat):Rat)=1:=rfl
 rw [o2] at p2
 rw [o1] at c1
 rw [cast_mul,cast_mul,Rat.natCast_add,o2]
 have k1:=Rat.mul_le_mul_of_nonneg_left m D0
 have k2:=Rat.mul_le_mul_of_nonneg_left (show 3*sS ζ (k+j)≤3*sS ζ k+zp ζ k by grind) D0
 constructor<;>grind
theorem least (P:Nat→Prop) (N:Nat) (h:P N): ∃n,n≤N∧P n∧ ∀i,i<n→ ¬P i:=by
 apply Classical.byContradiction
 intro hno
 have all: ∀n,n≤N→ ∀i,i≤n→ ¬P i:=by
  intro n
  induction n with
  |zero=>
   intro _ i hi hp
   exact hno ⟨0,by omega,by rw [show i=0 by omega] at hp;exact hp,fun i h=>by omega⟩
  |succ n ih=>
   intro hn i hi hp
   by_cases e:i=n+1
   ·exact hno ⟨n+1,hn,by rw [e] at hp;exact hp,fun i h=>ih (by omega) i (by omega)⟩
   ·exact ih (by omega) i (by omega) hp
 exact all N (Nat.le_refl _) N (Nat.le_refl _) h
def apP (z:PP) (p:Nat):Nat→PP
 |0=>z
 |k+1=>tmP (apP z p k) (tmP z z p) p
def asP (z:PP) (p:Nat):Nat→PP
 |0=>z
 |k+1=>plP (asP z p k) (ovP (apP z p (k+1)) (2*k+3))
def rpP (t:PP) (D:Nat):Nat→PP
 |0=>t
 |k+1=>bMul (rpP t D k) (bMul t t D) D
def rsP (t:PP) (D:Nat):Nat→PP
 |0=>bOv t 1
 |k+1=>plP (rsP t D k) (bOv (rpP t D (k+1)) (2*k+3))
theorem apP_in {z:PP} {p:Nat} {ζ:Rat} (h:0≤ζ) (hz:InV (2^p) ζ z): ∀k,InV (2^p) (zp ζ k) (apP z p k)
 |0=>hz
 |k+1=>InV.tm (zp_nonneg h k) (Rat.mul_nonneg h h) (apP_in h hz k) (InV.tm h h hz hz)
theorem asP_in {z:PP} {p:Nat} {ζ:Rat} (h:0≤ζ) (hz:InV (2^p) ζ z): ∀k,InV (2^p) (sS ζ k) (asP z p k)
 |0=>hz
 |k+1=>(asP_in h hz k).add (InV.ov (2*k+3) (by omega) (apP_in h hz (k+1)) (Nat.le_refl _) (Nat.le_refl _))
theorem rpP_in {t:PP} {D:Nat} (hD:0<D) {ζ:Rat} (h:0≤ζ) (ht:InV D ζ t): ∀k,InV D (zp ζ k) (rpP t D k)
 |0=>ht
 |k+1=>InV.bm hD (zp_nonneg h k) (Rat.mul_nonneg h h) (rpP_in hD h ht k) (InV.bm hD h h ht ht)
theorem rsP_in {t:PP} {D:Nat} (hD:0<D) {ζ:Rat} (h:0≤ζ) (ht:InV D ζ t): ∀k,InV D (sS ζ k) (rsP t D k)
 |0=>by
  have a:=InV.ov (m:=bOv t 1) 1 (by omega) ht (Nat.le_refl _) (cdiv_up _ _)
  have e:ζ/((1:Nat):Rat)=ζ:=by
   have:((1:Nat):Rat)=1:=rfl
   rw [this];grind
  rw [e] at a
  exact a
 |k+1=>(rsP_in hD h ht k).add (InV.ov (2*k+3) (by omega) (rpP_in hD h ht (k+1)) (Nat.le_refl _) (cdiv_up _ _))
theorem frB_half (r b D:Nat) (hb:0<b) (h:2*r≤b) (hD:2*(D/2)=D):2*(frB r b D).2≤D:=by
 have:(frB r b D).2≤D/2:=cdiv_le hb (by
  have e:r*D=2*r*(D/2):=by
   conv=>lhs;rw [←hD]
   rw [←Nat.mul_assoc,Nat.mul_comm r 2]
  rw [e,Nat.mul_comm (D/2)]
  exact Nat.mul_le_mul_right _ h)
 omega
theorem tm_wd {x y:PP} {p w v:Nat} (ha:x.1≤x.2) (hb:y.1≤y.2) (wa:x.2≤x.1+w) (wb:y.2≤y.1+v) (ma:x.2≤2^p) (mb:y.2≤2^p):(tmP x y p).2≤(tmP x y p).1+(w+v+2):=by
 have h:=(bMul_wd (D:=2^p) (M:=1) (Nat.two_pow_pos p) ha hb wa wb (by omega) (by omega)).1
 have e1:(tmP x y p).1=(bMul x y (2^p)).1:=rfl
 have e2:(tmP x y p).2≤(bMul x y (2^p)).2:=cdiv_up _ _
 omega
theorem ov_wd {x:PP} {w n:Nat} (hn:0<n) (wa:x.2≤x.1+w):x.2/n+1≤x.1/n+(w+2):=by
 have a:x.2/n≤(x.1+w)/n:=Nat.div_le_div_right wa
 have b:(x.1+w)/n≤x.1/n+(w+1):=by
  apply Nat.le_of_lt_succ
  apply (Nat.div_lt_iff_lt_mul hn).2
  have c:=div_lt_succ x.1 n hn
  have e:(x.1/n+(w+1)).succ*n=(x.1/n+1)*n+(w+1)*n:=by
   rw [←Nat.add_mul];congr 1;omega
  rw [e]
  have:=Nat.le_mul_of_pos_right (w+1) hn
  omega
 omega
theorem apP_top {z:PP} {p:Nat} (hp:2≤p) (hz:2*z.2≤2^p):(tmP z z p).2≤2^(p-2)∧ ∀k,(apP z p k).2≤2^(p-1-k):=by
 have e1:2^p=2^(p-1)*2:=by rw [←Nat.pow_succ];congr 1;omega
 have e2:2^(p-1)=2^(p-2)*2:=by rw [←Nat.pow_succ];congr 1;omega
 have z1:z.2≤2^(p-1):=by omega
 have hs:(tmP z z p).2≤2^(p-2):=by
  show cdiv (z.2*z.2) (2^p)≤_
  refine cdiv_le (Nat.two_pow_pos p) (Nat.le_trans (Nat.mul_le_mul z1 z1) (Nat.le_of_eq ?_))
  rw [←Nat.pow_add,←Nat.pow_add];congr 1;omega
 refine ⟨hs,fun k=>?_⟩
 induction k with
 |zero=>exact z1
 |succ k ih=>
  show cdiv ((apP z p k).2*(tmP z z p).2) (2^p)≤_
  refine cdiv_le (Nat.two_pow_pos p) (Nat.le_trans (Nat.mul_le_mul ih hs) ?_)
  rw [←Nat.pow_add,←Nat.pow_add]
  exact Nat.pow_le_pow_right (by omega) (by omega)
theorem apP_wd {z:PP} {p:Nat} (hp:2≤p) (hz:2*z.2≤2^p) (h01:z.1≤z.2) (hw:z.2≤z.1+1): ∀k,(apP z p k).2≤(apP z p k).1+(6*k+1)∧(apP z p k).1≤(apP z p k).2
 |0=>⟨hw,h01⟩
 |k+1=>by
  obtain ⟨a,b⟩:=apP_wd hp hz h01 hw k
  obtain ⟨s,t⟩:=apP_top hp hz
  have m1:(apP z p k).2≤2^p:=Nat.le_trans (t k) (Nat.pow_le_pow_right (by omega) (by omega))
  have m2:(tmP z z p).2≤2^p:=Nat.le_trans s (Nat.pow_le_pow_right (by omega) (by omega))
  have z2:z.2≤2^p:=by omega
  have q:=tm_wd h01 h01 hw hw z2 z2
  have r:=tm_wd b (tmP_le p h01 h01) a q m1 m2
  refine ⟨?_,tmP_le p b (tmP_le p h01 h01)⟩
  show (tmP (apP z p k) (tmP z z p) p).2≤(tmP (apP z p k) (tmP z z p) p).1+_
  omega
theorem sum_step (k a b c d w:Nat) (h:b≤a+(k+1)*(6*k+10)) (h2:d≤c+(6*(k+1)+1+2)):b+d≤a+c+(k+1+1)*(6*(k+1)+10):=by
 have e:(k+1+1)*(6*(k+1)+10)=(k+1)*(6*k+10)+(k+1)*6+(6*(k+1)+10):=by
  rw [Nat.add_mul (k+1) 1,←Nat.mul_add];congr 1
  ·congr 1;omega
 omega
theorem asP_wd {z:PP} {p:Nat} (hp:2≤p) (hz:2*z.2≤2^p) (h01:z.1≤z.2) (hw:z.2≤z.1+1): ∀k,(asP z p k).2≤(asP z p k).1+(k+1)*(6*k+10)∧(asP z p k).1≤(asP z p k).2
 |0=>⟨by show z.2≤z.1+_;omega,h01⟩
 |k+1=>by
  obtain ⟨a,b⟩:=asP_wd hp hz h01 hw k
  obtain ⟨c,d⟩:=apP_wd hp hz h01 hw (k+1)
  have o:=ov_wd (n:=2*k+3) (by omega) c
  have o2:(ovP (apP z p (k+1)) (2*k+3)).2≤(apP z p (k+1)).2/(2*k+3)+1:=cdiv_up _ _
  have o3:=ovP_le (2*k+3) (by omega) d
  have o4:(ovP (apP z p (k+1)) (2*k+3)).1=(apP z p (k+1)).1/(2*k+3):=rfl
  refine ⟨?_,?_⟩
  ·show (asP z p k).2+(ovP (apP z p (k+1)) (2*k+3)).2≤(asP z p k).1+(ovP (apP z p (k+1)) (2*k+3)).1+_
   exact sum_step k _ _ _ _ 0 a (by omega)
  ·show (asP z p k).1+(ovP (apP z p (k+1)) (2*k+3)).1≤(asP z p k).2+(ovP (apP z p (k+1)) (2*k+3)).2
   omega
theorem apP_end {z:PP} {p:Nat} (hp:2≤p) (hz:2*z.2≤2^p): ∃k,k≤p∧(apP z p k).2≤1∧ ∀i,i<k→ ¬(apP z p i).2≤1:=by
 obtain ⟨k,h1,h2,h3⟩:=least (fun k=>(apP z p k).2≤1) p (by
  have:=(apP_top hp hz).2 p
  rw [show p-1-p=0 by omega] at this
  exact this)
 exact ⟨k,h1,h2,h3⟩
theorem rpP_top {t:PP} {D:Nat} (hD:12≤D) (ht:2*t.2≤D):2*(bMul t t D).2≤D∧ ∀k,(rpP t D (k+1)).2≤(rpP t D k).2/2+1:=by
 have hs:2*(bMul t t D).2≤D:=by
  have a:4*(t.2*t.2/D)≤D:=by
   have h1:t.2*t.2/D*D≤t.2*t.2:=Nat.div_mul_le_self _ _
   have h2:=Nat.mul_le_mul ht ht
   have h3:2*t.2*(2*t.2)=4*(t.2*t.2):=by rw [Nat.mul_mul_mul_comm]
   rw [h3] at h2
   apply Nat.le_of_mul_le_mul_right _ (show 0<D by omega)
   rw [Nat.mul_assoc]
   omega
  show 2*(t.2*t.2/D+1)≤D
  omega
 refine ⟨hs,fun k=>?_⟩
 show (rpP t D k).2*(bMul t t D).2/D+1≤_
 have a:(rpP t D k).2*(bMul t t D).2/D≤(rpP t D k).2/2:=by
  rw [Nat.le_div_iff_mul_le (by omega)]
  apply Nat.le_of_mul_le_mul_right _ (show 0<D by omega)
  have h1:(rpP t D k).2*(bMul t t D).2/D*D≤(rpP t D k).2*(bMul t t D).2:=Nat.div_mul_le_self _ _
  have h2:=Nat.mul_le_mul_left (rpP t D k).2 hs
  have e:(rpP t D k).2*(bMul t t D).2/D*2*D=2*((rpP t D k).2*(bMul t t D).2/D*D):=by
   rw [Nat.mul_right_comm,Nat.mul_comm _ 2]
  have e2:(rpP t D k).2*(2*(bMul t t D).2)=2*((rpP t D k).2*(bMul t t D).2):=Nat.mul_left_comm _ _ _
  rw [e]
  rw [e2] at h2
  omega
 omega
theorem rpP_le {t:PP} {D:Nat} (hD:12≤D) (ht:2*t.2≤D): ∀k,(rpP t D k).2≤D
 |0=>by show t.2≤D;omega
 |k+1=>by
  have:=(rpP_top hD ht).2 k
  have:=rpP_le hD ht k
  omega
theorem rpP_wd {t:PP} {D:Nat} (hD:12≤D) (ht:2*t.2≤D) (h01:t.1≤t.2) (hw:t.2≤t.1+1): ∀k,(rpP t D k).2≤(rpP t D k).1+(6*k+1)∧(rpP t D k).1≤(rpP t D k).2
 |0=>⟨hw,h01⟩
 |k+1=>by
  obtain ⟨a,b⟩:=rpP_wd hD ht h01 hw k
  obtain ⟨s,-⟩:=rpP_top hD ht
  have m1:=rpP_le hD ht k
  have q:=bMul_wd (M:=1) (show 0<D by omega) h01 h01 hw hw (by omega) (by omega)
  have r:=bMul_wd (M:=1) (show 0<D by omega) b q.2 a q.1 (by omega) (by omega)
  refine ⟨?_,r.2⟩
  show (bMul (rpP t D k) (bMul t t D) D).2≤(bMul (rpP t D k) (bMul t t D) D).1+_
  omega
theorem rsP_wd {t:PP} {D:Nat} (hD:12≤D) (ht:2*t.2≤D) (h01:t.1≤t.2) (hw:t.2≤t.1+1): ∀k,(rsP t D k).2≤(rsP t D k).1+(k+1)*(6*k+10)∧(rsP t D k).1≤(rsP t D k).2
 |0=>⟨by show t.2/1+1≤t.1/1+_;rw [Nat.div_one,Nat.div_one];omega,by show t.1/1≤t.2/1+1;rw [Nat.div_one,Nat.div_one];omega⟩
 |k+1=>by
  obtain ⟨a,b⟩:=rsP_wd hD ht h01 hw k
  obtain ⟨c,d⟩:=rpP_wd hD ht h01 hw (k+1)
  have o:=ov_wd (n:=2*k+3) (by omega) c
  have o3:(rpP t D (k+1)).1/(2*k+3)≤(rpP t D (k+1)).2/(2*k+3):=Nat.div_le_div_right d
  refine ⟨?_,?_⟩
  ·show (rsP t D k).2+((rpP t D (k+1)).2/(2*k+3)+1)≤(rsP t D k).1+(rpP t D (k+1)).1/(2*k+3)+_
   exact sum_step k _ _ _ _ 0 a (by omega)
  ·show (rsP t D k).1+(rpP t D (k+1)).1/(2*k+3)≤(rsP t D k).2+((rpP t D (k+1)).2/(2*k+3)+1)
   omega
theorem rpP_end {t:PP} {D K:Nat} (hD:12≤D) (ht:2*t.2≤D) (hK:D≤2^K): ∃k,k≤K+1∧(rpP t D k).2≤2∧ ∀i,i<k→ ¬(rpP t D i).2≤2:=by
 have all: ∀k,k≤K→(rpP t D k).2≤2+2^(K-k):=by
  intro k
  induction k with
  |zero=>intro _;show t.2≤_;rw [Nat.sub_zero];omega
  |succ k ih=>
   intro hk
   have a:=(rpP_top hD ht).2 k
   have b:=ih (by omega)
   have e:2^(K-k)=2^(K-(k+1))*2:=by rw [←Nat.pow_succ];congr 1;omega
   omega
 obtain ⟨k,h1,h2,h3⟩:=least (fun k=>(rpP t D k).2≤2) (K+1) (by
  have a:=all K (Nat.le_refl _)
  rw [Nat.sub_self,Nat.pow_zero] at a
  have b:=(rpP_top hD ht).2 K
  show (rpP t D (K+1)).2≤2
  omega)
 exact ⟨k,h1,h2,h3⟩
theorem dyQ_split (m:Nat) (a b:Int):dyQ m (a+b)=dyQ m a*dyQ 1 b:=by
 have ha:=dyQ_eq m a
 have hb:=dyQ_eq 1 b
 have hab:=dyQ_eq m (a+b)
 have o:((1:Nat):Rat)=1:=rfl
 rw [o] at hb
 have Pa:=pow2_pos (-a).toNat
 have Pb:=pow2_pos (-b).toNat
 have Pc:=pow2_pos (-(a+b)).toNat
 have key:(2:Rat)^(a+b).toNat*(2^(-a).toNat*2^(-b).toNat)=2^a.toNat*2^b.toNat*2^(-(a+b)).toNat:=by
  rw [←pow2_add,←pow2_add,←pow2_add,←pow2_add];congr 1;omega
 generalize dyQ m (a+b)=X at *
 generalize dyQ m a=Y at *
 generalize dyQ 1 b=Z at *
 generalize (2:Rat)^(-a).toNat=A at *
 generalize (2:Rat)^(-b).toNat=B at *
 generalize (2:Rat)^(-(a+b)).toNat=C at *
 generalize (2:Rat)^a.toNat=A' at *
 generalize (2:Rat)^b.toNat=B' at *
 generalize (2:Rat)^(a+b).toNat=C' at *
 have e:C*(A*B)*X=C*(A*B)*(Y*Z):=by
  have l:C*(A*B)*X=(m:Rat)*(C'*(A*B)):=by grind
  have r:C*(A*B)*(Y*Z)=(m:Rat)*(A'*B'*C):=by grind
  rw [l,r,key]
 have P:=Rat.mul_pos Pc (Rat.mul_pos Pa Pb)
 exact Rat.le_antisymm (Rat.le_of_mul_le_mul_left (by rw [e];exact Rat.le_refl) P) (Rat.le_of_mul_le_mul_left (by rw [e];exact Rat.le_refl) P)
def sgS (neg:Bool) (u:Nat→Rat):Nat→Rat:=fun N=>if neg=true then -u N else u N
def zS (n:Int) (u:Nat→Rat):Nat→Rat:=fun N=>(n:Rat)*u N
def addS (u v:Nat→Rat):Nat→Rat:=fun N=>u N+v N
theorem LogTo.zS {u:Nat→Rat} (h:LogTo u 2) (n:Int):LogTo (Go.Ulp.zS n u) (dyQ 1 n):=by
 have o:((1:Nat):Rat)=1:=rfl
 have hn:=dyQ_eq 1 n
 rw [o] at hn
 rcases Int.lt_or_le n 0 with k|k
 ·obtain ⟨j,rfl⟩: ∃j:Nat,n= -(j:Int):=⟨n.natAbs,by omega⟩
  have e1:(-(j:Int)).toNat=0:=by omega
  have e2:(-(-(j:Int))).toNat=j:=by omega
  rw [e1,e2,Rat.pow_zero] at hn
  refine ((h.smul j).neg (E:=dyQ 1 (-(j:Int))) (by rw [hn];grind)).congr (fun N=>?_) rfl
  show ((-(j:Int):Int):Rat)*u N= -((j:Rat)*u N)
  rw [Rat.intCast_neg,Rat.intCast_natCast];grind
 ·obtain ⟨j,rfl⟩:=Int.eq_ofNat_of_zero_le k
  have e1:((j:Int)).toNat=j:=by omega
  have e2:(-(j:Int)).toNat=0:=by omega
  rw [e1,e2,Rat.pow_zero] at hn
  refine (h.smul j).congr (fun N=>?_) (by grind)
  show (((j:Nat):Int):Rat)*u N=_
  rw [Rat.intCast_natCast]
theorem two_a:ExpTo (lnN (1/3)) 2:=lnN_to (1/3) 2 (by grind) (by grind) (by grind)
theorem two_b:ExpTo (addS (lnN (1/7)) (lnN (1/5))) 2:=by
 have a:=lnN_to (1/7) (4/3) (by grind) (by grind) (by grind)
 have b:=lnN_to (1/5) (3/2) (by grind) (by grind) (by grind)
 have c:=a.add b
 have e:(4/3:Rat)*(3/2)=2:=by grind
 rw [e] at c
 exact c
theorem prog_to (m:Nat) (e:Int) (s:Nat) (neg:Bool) (num den:Nat) (hm:0<m) (h1:if neg=true then m<2^s∧2^s≤3*m∧num=2^s-m else 2^s≤m∧m≤3*2^s∧num=m-2^s) (hd:den=m+2^s) (ζ:Rat) (hζ:(den:Rat)*ζ=(num:Rat)):
 0<den∧2*num≤den∧0≤ζ∧2*ζ≤1∧LogTo (addS (sgS neg (lnN ζ)) (zS (e+s) (lnN (1/3)))) (dyQ m e):=by
 have hp:=Nat.two_pow_pos s
 have hden:0<den:=by omega
 have hhalf:2*num≤den:=by
  cases neg
  ·simp only [Bool.false_eq_true,if_false] at h1;omega
  ·simp only [if_true] at h1;omega
 have P:(0:Rat)<(den:Rat):=Rat.natCast_pos.2 hden
 have n0:(0:Rat)≤(num:Rat):=Rat.natCast_nonneg
 have z0:0≤ζ:=Rat.not_lt.1 (fun h=>by
  have:=Rat.mul_lt_mul_of_pos_left h P
  grind)
 have o2:((2:Nat):Rat)=2:=rfl
 have z1:2*ζ≤1:=by
  have:=natle hhalf
  rw [cast_mul,o2] at this
  apply Rat.le_of_mul_le_mul_left _ P
  grind
 refine ⟨hden,hhalf,z0,z1,?_⟩
 have hs:dyQ m e=dyQ m (-(s:Int))*dyQ 1 (e+s):=by rw [←dyQ_split];congr 1;omega
 have hf:=dyQ_eq m (-(s:Int))
 have e1:(-(s:Int)).toNat=0:=by omega
 have e2:(-(-(s:Int))).toNat=s:=by omega
 rw [e1,e2,Rat.pow_zero,Rat.mul_one] at hf
 have Ps:=pow2_pos s
 have hmr:(0:Rat)<(m:Rat):=Rat.natCast_pos.2 hm
 have hdr:(den:Rat)=(m:Rat)+2^s:=by rw [hd,Rat.natCast_add,two_cast]
 have tw:=LogTo.of_exp two_a
 rw [hs]
 generalize dyQ m (-(s:Int))=f at *
 cases neg
 ·simp only [Bool.false_eq_true,if_false] at h1
  have hn:(num:Rat)=(m:Rat)-2^s:=by
   have:((num+2^s:Nat):Rat)=(m:Rat):=by congr 1;omega
   rw [Rat.natCast_add,two_cast] at this
   grind
  refine (LogTo.of_exp (lnN_to ζ f z0 z1 ?_)).add (tw.zS (e+s))
  have k1:(den:Rat)*((1-ζ)*f)=(den:Rat)*(1+ζ):=by grind
  exact Rat.le_antisymm (Rat.le_of_mul_le_mul_left (by rw [k1];exact Rat.le_refl) P) (Rat.le_of_mul_le_mul_left (by rw [k1];exact Rat.le_refl) P)
 ·simp only [if_true] at h1
  have hn:(num:Rat)=2^s-(m:Rat):=by
   have:((num+m:Nat):Rat)=((2^s:Nat):Rat):=by congr 1;omega
   rw [Rat.natCast_add,two_cast] at this
   grind
  have f0:0<f:=Rat.not_le.1 (fun h=>by
   have:=Rat.mul_le_mul_of_nonneg_left h (show (0:Rat)≤2^s by grind)
   grind)
  obtain ⟨F,hF⟩: ∃F:Rat,F=1/f:=⟨_,rfl⟩
  have hFf:F*f=1:=by rw [hF];grind
  have mF:(m:Rat)*F=2^s:=by rw [←hf];grind
  refine ((LogTo.of_exp (lnN_to ζ F z0 z1 ?_)).neg hFf).add (tw.zS (e+s))
  have k1:(den:Rat)*((1-ζ)*F)=(den:Rat)*(1+ζ):=by grind
  exact Rat.le_antisymm (Rat.le_of_mul_le_mul_left (by rw [k1];exact Rat.le_refl) P) (Rat.le_of_mul_le_mul_left (by rw [k1];exact Rat.le_refl) P)
theorem ref_to (m:Nat) (e k:Int) (a b:Nat) (hb:0<b) (hab:(b:Rat)*dyQ m (e-k)=(a:Rat)) (h1:b≤a) (h2:a≤2*b) (ζ:Rat) (hζ:((a+b:Nat):Rat)*ζ=((a-b:Nat):Rat)):
 2*(a-b)≤a+b∧0≤ζ∧2*ζ≤1∧LogTo (addS (lnN ζ) (zS k (addS (lnN (1/7)) (lnN (1/5))))) (dyQ m e):=by
 have P:(0:Rat)<((a+b:Nat):Rat):=Rat.natCast_pos.2 (by omega)
 have n0:(0:Rat)≤((a-b:Nat):Rat):=Rat.natCast_nonneg
 have z0:0≤ζ:=Rat.not_lt.1 (fun h=>by
  have:=Rat.mul_lt_mul_of_pos_left h P
  grind)
 have o2:((2:Nat):Rat)=2:=rfl
 have z1:2*ζ≤1:=by
  have:=natle (show 2*(a-b)≤a+b by omega)
  rw [cast_mul,o2] at this
  apply Rat.le_of_mul_le_mul_left _ P
  grind
 refine ⟨by omega,z0,z1,?_⟩
 have hs:dyQ m e=dyQ m (e-k)*dyQ 1 k:=by rw [←dyQ_split];congr 1;omega
 rw [hs]
 refine (LogTo.of_exp (lnN_to ζ _ z0 z1 ?_)).add ((LogTo.of_exp two_b).zS k)
 generalize dyQ m (e-k)=f at *
 have hs1:((a-b:Nat):Rat)=(a:Rat)-(b:Rat):=by
  have:((a-b+b:Nat):Rat)=(a:Rat):=by congr 1;omega
  rw [Rat.natCast_add] at this
  grind
 have hs2:((a+b:Nat):Rat)=(a:Rat)+(b:Rat):=Rat.natCast_add a b
 have k1:((a+b:Nat):Rat)*((1-ζ)*f)=((a+b:Nat):Rat)*(1+ζ):=by grind
 exact Rat.le_antisymm (Rat.le_of_mul_le_mul_left (by rw [k1];exact Rat.le_refl) P) (Rat.le_of_mul_le_mul_left (by rw [k1];exact Rat.le_refl) P)
end Go.Ulp
