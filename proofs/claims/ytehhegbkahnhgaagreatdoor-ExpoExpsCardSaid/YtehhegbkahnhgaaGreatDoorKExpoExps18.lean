/- ExpoExps: what the proof leans on, part 18 (Gp12 Gp13 Gp14 Gp15 Gp16 Gp17 Gp18 Gp19 Gp20 Gp21 Gp22 Eg1 Gp23 Eg2 Se0). -/
import Derived.Test.YtehhegbkahnhgaaGreatDoorKExpoExps8
import Derived.Test.YtehhegbkahnhgaaGreatDoorKExpoExps10
import Derived.Test.YtehhegbkahnhgaaGreatDoorKExpoExps14
import Derived.Test.YtehhegbkahnhgaaGreatDoorKExpoExps15
import Derived.Test.YtehhegbkahnhgaaGreatDoorKExpoExps17
set_option linter.unusedVariables false
set_option linter.unusedSimpArgs false
namespace Go.Ulp
def frB (r b D:Nat):PP:=(r*D/b,cdiv (r*D) b)
theorem frB_ok (r b D:Nat) (hb:0<b) (hr:r<b):(frB r b D).2≤D∧(frB r b D).1≤(frB r b D).2∧(frB r b D).2≤(frB r b D).1+1:=by
 refine ⟨cdiv_le hb (by rw [Nat.mul_comm];exact Nat.mul_le_mul_left _ (Nat.le_of_lt hr)),?_,?_⟩
 ·show r*D/b≤cdiv (r*D) b
  unfold cdiv;split<;>omega
 ·show cdiv (r*D) b≤r*D/b+1
  unfold cdiv;split<;>omega
theorem frB_in (r b D:Nat) (hb:0<b) (x:Rat) (hx:(b:Rat)*x=(r:Rat)):((frB r b D).1:Rat)≤(D:Rat)*x∧(D:Rat)*x≤((frB r b D).2:Rat):=by
 have a:=fdiv_cast (r*D) b
 have c:=cdiv_cast (r*D) b hb
 have P:(0:Rat)<(b:Rat):=Rat.natCast_pos.2 hb
 rw [cast_mul] at a c
 show ((r*D/b:Nat):Rat)≤_∧_≤((cdiv (r*D) b:Nat):Rat)
 constructor
 ·apply Rat.le_of_mul_le_mul_left _ P
  grind
 ·apply Rat.le_of_mul_le_mul_left _ P
  grind
def eB (N b D n1 n2:Nat):PP:=bMul (bPow (up9 (beS (D,D) D n1)) D (N/b) (N/b)) (up9 (beS (frB (N%b) b D) D n2)) D
theorem frac_parts (N b:Nat) (hb:0<b) (y:Rat) (hy:(b:Rat)*y=(N:Rat)): ∃x:Rat,0≤x∧x≤1∧(b:Rat)*x=((N%b:Nat):Rat)∧y=((N/b:Nat):Rat)+x:=by
 have P:(0:Rat)<(b:Rat):=Rat.natCast_pos.2 hb
 have e:(N:Rat)=(b:Rat)*((N/b:Nat):Rat)+((N%b:Nat):Rat):=by
  rw [←cast_mul,←Rat.natCast_add,Nat.div_add_mod]
 have h0:(0:Rat)≤((N%b:Nat):Rat):=Rat.natCast_nonneg
 have h1:=natle (Nat.le_of_lt (Nat.mod_lt N hb))
 refine ⟨y-((N/b:Nat):Rat),?_,?_,by grind,by grind⟩
 ·exact Rat.le_of_mul_le_mul_left (show (b:Rat)*0≤b*(y-((N/b:Nat):Rat)) by grind) P
 ·exact Rat.le_of_mul_le_mul_left (show (b:Rat)*(y-((N/b:Nat):Rat))≤b*1 by grind) P
theorem eB_in (N b D n1 n2:Nat) (hb:0<b) (hD:0<D) (y:Rat) (hy:(b:Rat)*y=(N:Rat)) (h1:1≤n1) (k1:(beT (D,D) D n1).2≤2) (h2:1≤n2) (k2:(beT (frB (N%b) b D) D n2).2≤2):InD D y (eB N b D n1 n2):=by
 obtain ⟨x,x0,x1,hx,he⟩:=frac_parts N b hb y hy
 have one:(0:Rat)≤1:=by grind
 have a:=bothE_in (D,D) D hD 1 one (by grind) (by show ((D:Nat):Rat)≤_;grind) (by show _≤((D:Nat):Rat);grind) n1 h1 k1
 have f:=frB_in (N%b) b D hb x hx
 have c:=bothE_in (frB (N%b) b D) D hD x x0 x1 f.1 f.2 n2 h2 k2
 have p:=bPow_in hD one a (N/b) (N/b) (Nat.le_refl _)
 rw [Rat.mul_one] at p
 rw [he]
 exact bMul_in hD Rat.natCast_nonneg x0 p c
theorem eB_low (N b D n1 n2:Nat) (hb:0<b) (hD:12≤D):D≤(eB N b D n1 n2).1:=by
 have a:=(bS_wd hD (y:=(D,D)) (Nat.le_refl _) (Nat.le_refl _) (Nat.le_succ _) n1).2.2
 obtain ⟨f1,f2,f3⟩:=frB_ok (N%b) b D hb (Nat.mod_lt _ hb)
 have c:=(bS_wd hD f1 f2 f3 n2).2.2
 exact bMul_low (by omega) (bPow_low (by omega) (show D≤(up9 (beS (D,D) D n1)).1 from a) _ _) (show D≤(up9 (beS (frB (N%b) b D) D n2)).1 from c)
theorem eB_wd (N b D n1 n2 q:Nat) (hb:0<b) (hD:12≤D) (y:Rat) (hy:(b:Rat)*y=(N:Rat)) (h1:1≤n1) (k1:(beT (D,D) D n1).2≤2) (h2:1≤n2) (k2:(beT (frB (N%b) b D) D n2).2≤2)
 (l1:n1≤2^60) (l2:n2≤2^60) (hq:1≤q) (hq2:q<2^10) (hyq:y≤(q:Rat)) (hDW:2^(70+(4*q+6)*10)≤D):
 (eB N b D n1 n2).2≤(eB N b D n1 n2).1+2^(2*q+4+(70+(4*q+6)*10))∧(eB N b D n1 n2).1≤(eB N b D n1 n2).2∧(eB N b D n1 n2).1≤D*2^(2*q):=by
 have hD0:0<D:=by omega
 obtain ⟨x,x0,x1,hx,he⟩:=frac_parts N b hb y hy
 have one:(0:Rat)≤1:=by grind
 have a:=bothE_in (D,D) D hD0 1 one (by grind) (by show ((D:Nat):Rat)≤_;grind) (by show _≤((D:Nat):Rat);grind) n1 h1 k1
 have f:=frB_in (N%b) b D hb x hx
 have c:=bothE_in (frB (N%b) b D) D hD0 x x0 x1 f.1 f.2 n2 h2 k2
 have hwq:N/b≤q:=by
  apply Rat.natCast_le_natCast.1;grind
 have e60:8*(2^60+1)+9≤2^70:=by decide
 obtain ⟨wa,la,-⟩:=bS_wd hD (y:=(D,D)) (Nat.le_refl _) (Nat.le_refl _) (Nat.le_succ _) n1
 obtain ⟨f1,f2,f3⟩:=frB_ok (N%b) b D hb (Nat.mod_lt _ hb)
 obtain ⟨wc,lc,-⟩:=bS_wd hD f1 f2 f3 n2
 have wa2:(up9 (beS (D,D) D n1)).2≤(up9 (beS (D,D) D n1)).1+2^70:=by
  show (beS (D,D) D n1).2+9≤(beS (D,D) D n1).1+_
  omega
 have wc2:(up9 (beS (frB (N%b) b D) D n2)).2≤(up9 (beS (frB (N%b) b D) D n2)).1+2^70:=by
  show (beS (frB (N%b) b D) D n2).2+9≤(beS (frB (N%b) b D) D n2).1+_
  omega
 have la2:(up9 (beS (D,D) D n1)).1≤(up9 (beS (D,D) D n1)).2:=Nat.le_trans la (Nat.le_add_right _ _)
 have lc2:(up9 (beS (frB (N%b) b D) D n2)).1≤(up9 (beS (frB (N%b) b D) D n2)).2:=Nat.le_trans lc (Nat.le_add_right _ _)
 obtain ⟨wp,lp⟩:=bPow_wd hD0 a la2 70 q wa2 hq 10 (N/b) (N/b) (Nat.le_refl _) (by omega) hwq hDW
 have ip:=bPow_in hD0 one a (N/b) (N/b) (Nat.le_refl _)
 rw [Rat.mul_one] at ip
 have tp:=ip.top Rat.natCast_nonneg q (natle hwq)
 have tc:=c.top x0 1 (by have:((1:Nat):Rat)=1:=rfl
                         grind)
 have tot:=(bMul_in hD0 Rat.natCast_nonneg x0 ip c).top (by rw [←he];grind) q (by rw [←he];exact hyq)
 show (bMul _ _ D).2≤(bMul _ _ D).1+_∧(bMul _ _ D).1≤(bMul _ _ D).2∧(bMul _ _ D).1≤_
 generalize bPow (up9 (beS (D,D) D n1)) D (N/b) (N/b)=u at *
 generalize up9 (beS (frB (N%b) b D) D n2)=v at *
 clear a c ip f wa wc wa2 la2
 obtain ⟨X,hX⟩: ∃X,X=70+(4*q+6)*10:=⟨_,rfl⟩
 rw [←hX] at wp hDW ⊢
 have h70:2^70≤2^X:=Nat.pow_le_pow_right (by omega) (by omega)
 have big: ∀A,A≤D*2^(2*q)+D→A≤D*2^(2*q+1):=fun A hA=>by
  have a1:1≤2^(2*q):=Nat.two_pow_pos _
  have a2:=Nat.mul_le_mul_left D a1
  rw [Nat.pow_succ,←Nat.mul_assoc];omega
 have u2:=big u.2 (by omega)
 have v2:=big v.2 (by
  have a1:2^(2*1)≤2^(2*q):=Nat.pow_le_pow_right (by omega) (by omega)
  have a3:=Nat.mul_le_mul_left D a1
  omega)
 have r:=bMul_wd hD0 lp lc2 wp (show v.2≤v.1+2^X by omega) u2 v2
 have ts:=two_step q X
 have e:2^(2*q+3+X)≤2^(2*q+4+X):=Nat.pow_le_pow_right (by omega) (by omega)
 exact ⟨by omega,r.2,tot⟩
def conv (f g:Nat→Rat) (n:Nat):Rat:=sumQ (fun i=>f i*g (n-i)) (n+1)
def dx (f:Nat→Rat) (n:Nat):Rat:=(n:Rat)*f n
def ExpTo (u:Nat→Rat) (D:Rat):Prop:=(∀N,0≤u N)∧(∀N T,EE (u N) T≤D)∧ ∀e:Rat,0<e→ ∃N0,∀N,N0≤N→ ∃T0,∀T,T0≤T→D-e≤EE (u N) T
def Near (u v:Nat→Rat):Prop:= ∀e:Rat,0<e→ ∃N0,∀N,N0≤N→ -e≤u N-v N∧u N-v N≤e
theorem EE_diff {x y:Rat} (hx:0≤x) (h:x≤y): ∀T,y-x≤EE y (T+2)-EE x (T+2)
 |0=>by rw [EE_two,EE_two];grind
 |T+1=>by
  have ih:=EE_diff hx h T
  have a:=ep_mono hx h (T+2)
  have e1:EE y (T+1+2)=EE y (T+2)+ep y (T+2):=rfl
  have e2:EE x (T+1+2)=EE x (T+2)+ep x (T+2):=rfl
  rw [e1,e2];grind
theorem ExpTo.uniq {u v:Nat→Rat} {D:Rat} (h:ExpTo u D) (k:ExpTo v D):Near u v:=by
 intro e he
 obtain ⟨h0,h1,h2⟩:=h
 obtain ⟨k0,k1,k2⟩:=k
 obtain ⟨A,hA⟩:=h2 e he
 obtain ⟨B,hB⟩:=k2 e he
 refine ⟨A+B,fun N hN=>?_⟩
 obtain ⟨S,hS⟩:=hA N (by omega)
 obtain ⟨T,hT⟩:=hB N (by omega)
 have a:=hS (S+T+2) (by omega)
 have b:=hT (S+T+2) (by omega)
 have c:=h1 N (S+T+2)
 have d:=k1 N (S+T+2)
 constructor
 ·by_cases g:u N≤v N
  ·have:=EE_diff (h0 N) g (S+T);grind
  ·grind
 ·by_cases g:v N≤u N
  ·have:=EE_diff (k0 N) g (S+T);grind
  ·grind
theorem ExpTo.one_le {u:Nat→Rat} {D:Rat} (h:ExpTo u D):1≤D:=by
 have a:=h.2.1 0 1
 have b:=EE_ge_one (h.1 0) (Nat.le_refl 1)
 grind
theorem ExpTo.zero:ExpTo (fun _=>0) 1:=by
 have e: ∀T,EE 0 (T+1)=1:=by
  intro T
  induction T with
  |zero=>unfold EE;simp only [sumQ,ep];grind
  |succ T ih=>
   unfold EE at ih ⊢
   rw [sumQ_succ,ih,ep];grind
 refine ⟨fun _=>by grind,fun N T=>?_,fun e' he=>⟨0,fun N _=>⟨1,fun T hT=>?_⟩⟩⟩
 ·have a:=EE_le 0 (by grind) (show T≤T+1 by omega)
  rw [e T] at a;exact a
 ·rw [show T=T-1+1 by omega,e];grind
theorem ExpTo.add {u v:Nat→Rat} {D E:Rat} (h:ExpTo u D) (k:ExpTo v E):ExpTo (fun N=>u N+v N) (D*E):=by
 have hD:=h.one_le
 have hE:=k.one_le
 obtain ⟨h0,h1,h2⟩:=h
 obtain ⟨k0,k1,k2⟩:=k
 refine ⟨fun N=>by have:=h0 N;have:=k0 N;grind,fun N T=>?_,fun e he=>?_⟩
 ·have a:=EE_add_le (u N) (v N) (h0 N) (k0 N) T
  have b:=mul_le_mul2 (EE_nonneg _ (h0 N) T) (h1 N T) (EE_nonneg _ (k0 N) T) (k1 N T)
  grind
 ·obtain ⟨e',he'⟩: ∃e':Rat,e'=e/(D+E):=⟨_,rfl⟩
  have hs:0<D+E:=by grind
  have hm:(D+E)*e'=e:=by rw [he'];grind
  have he0:0<e':=Rat.not_le.1 (fun hle=>by
   have:=Rat.mul_le_mul_of_nonneg_left hle (show 0≤D+E by grind)
   grind)
  obtain ⟨t,ht⟩: ∃t:Rat,t=if e'≤1 then e' else 1:=⟨_,rfl⟩
  have t0:0<t:=by rw [ht];split<;>grind
  have t1:t≤1:=by rw [ht];split<;>grind
  have t2:t≤e':=by rw [ht];split<;>grind
  obtain ⟨A,hA⟩:=h2 t t0
  obtain ⟨B,hB⟩:=k2 t t0
  refine ⟨A+B,fun N hN=>?_⟩
  obtain ⟨S,hS⟩:=hA N (by omega)
  obtain ⟨T,hT⟩:=hB N (by omega)
  refine ⟨(S+T)+(S+T),fun R hR=>?_⟩
  have a:=hS (S+T) (by omega)
  have b:=hT (S+T) (by omega)
  have c:=EE_add_ge (u N) (v N) (h0 N) (k0 N) (S+T)
  have d:=EE_le (u N+v N) (by have:=h0 N;have:=k0 N;grind) hR
  have f:=mul_le_mul2 (show 0≤D-t by grind) a (show 0≤E-t by grind) b
  have g:=Rat.mul_le_mul_of_nonneg_left t2 (show 0≤D+E by grind)
  have tt:=Rat.mul_nonneg (show 0≤t by grind) (show 0≤t by grind)
  grind
theorem ExpTo.smul {u:Nat→Rat} {D:Rat} (h:ExpTo u D): ∀k:Nat,ExpTo (fun N=>(k:Rat)*u N) (D^k)
 |0=>by
  have e:(fun N=>((0:Nat):Rat)*u N)=fun _=>0:=by
   funext N
   have:((0:Nat):Rat)=0:=rfl
   rw [this];grind
  rw [e,Rat.pow_zero];exact ExpTo.zero
 |k+1=>by
  have ih:=(ExpTo.smul h k).add h
  have e:(fun N=>((k+1:Nat):Rat)*u N)=fun N=>(k:Rat)*u N+u N:=by
   funext N;rw [cast_succ];grind
  rw [e,Rat.pow_succ];exact ih
theorem Near.add {u v u' v':Nat→Rat} (h:Near u v) (k:Near u' v'):Near (fun N=>u N+u' N) (fun N=>v N+v' N):=by
 intro e he
 obtain ⟨A,hA⟩:=h (e/2) (by grind)
 obtain ⟨B,hB⟩:=k (e/2) (by grind)
 refine ⟨A+B,fun N hN=>?_⟩
 have a:=hA N (by omega)
 have b:=hB N (by omega)
 constructor<;>grind
theorem Near.neg {u v:Nat→Rat} (h:Near u v):Near (fun N=> -u N) (fun N=> -v N):=by
 intro e he
 obtain ⟨A,hA⟩:=h e he
 exact ⟨A,fun N hN=>by have a:=hA N hN;constructor<;>grind⟩
theorem Near.symm {u v:Nat→Rat} (h:Near u v):Near v u:=by
 intro e he
 obtain ⟨A,hA⟩:=h e he
 exact ⟨A,fun N hN=>by have a:=hA N hN;constructor<;>grind⟩
theorem Near.refl (u:Nat→Rat):Near u u:=fun e he=>⟨0,fun N _=>by constructor<;>grind⟩
theorem Near.trans {u v w:Nat→Rat} (h:Near u v) (k:Near v w):Near u w:=by
 intro e he
 obtain ⟨A,hA⟩:=h (e/2) (by grind)
 obtain ⟨B,hB⟩:=k (e/2) (by grind)
 refine ⟨A+B,fun N hN=>?_⟩
 have a:=hA N (by omega)
 have b:=hB N (by omega)
 constructor<;>grind
theorem Near.smul {u v:Nat→Rat} (h:Near u v) (k:Nat):Near (fun N=>(k:Rat)*u N) (fun N=>(k:Rat)*v N):=by
 induction k with
 |zero=>
  intro e he
  refine ⟨0,fun N _=>?_⟩
  have:((0:Nat):Rat)=0:=rfl
  rw [this]
  constructor<;>grind
 |succ k ih=>
  have:=ih.add h
  intro e he
  obtain ⟨A,hA⟩:=this e he
  refine ⟨A,fun N hN=>?_⟩
  have a:=hA N hN
  rw [cast_succ]
  constructor<;>grind
def LogTo (u:Nat→Rat) (D:Rat):Prop:= ∃(a b:Nat→Rat) (A B:Rat),ExpTo a A∧ExpTo b B∧A=D*B∧ ∀N,u N=a N-b N
theorem LogTo.uniq {u v:Nat→Rat} {D:Rat} (h:LogTo u D) (k:LogTo v D):Near u v:=by
 obtain ⟨a,b,A,B,ha,hb,e,hu⟩:=h
 obtain ⟨a',b',A',B',ha',hb',e',hv⟩:=k
 have x:=ha.add hb'
 have y:=ha'.add hb
 have ee:A*B'=A'*B:=by rw [e,e'];grind
 rw [ee] at x
 have n:=x.uniq y
 intro ε hε
 obtain ⟨N0,hN⟩:=n ε hε
 refine ⟨N0,fun N h=>?_⟩
 have:=hN N h
 rw [hu,hv];constructor<;>grind
theorem LogTo.neg {u:Nat→Rat} {D E:Rat} (h:LogTo u D) (e:D*E=1):LogTo (fun N=> -u N) E:=by
 obtain ⟨a,b,A,B,ha,hb,e1,hu⟩:=h
 exact ⟨b,a,B,A,hb,ha,by rw [e1];grind,fun N=>by show -u N=_;rw [hu];grind⟩
theorem LogTo.add {u v:Nat→Rat} {D E:Rat} (h:LogTo u D) (k:LogTo v E):LogTo (fun N=>u N+v N) (D*E):=by
 obtain ⟨a,b,A,B,ha,hb,e,hu⟩:=h
 obtain ⟨a',b',A',B',ha',hb',e',hv⟩:=k
 exact ⟨_,_,_,_,ha.add ha',hb.add hb',by rw [e,e'];grind,fun N=>by show u N+v N=a N+a' N-(b N+b' N);rw [hu,hv];grind⟩
theorem LogTo.smul {u:Nat→Rat} {D:Rat} (h:LogTo u D) (k:Nat):LogTo (fun N=>(k:Rat)*u N) (D^k):=by
 obtain ⟨a,b,A,B,ha,hb,e,hu⟩:=h
 refine ⟨_,_,_,_,ha.smul k,hb.smul k,?_,fun N=>by show (k:Rat)*u N=(k:Rat)*a N-(k:Rat)*b N;rw [hu];grind⟩
 rw [e]
 clear ha hb hu e
 induction k with
 |zero=>rw [Rat.pow_zero,Rat.pow_zero,Rat.pow_zero];grind
 |succ k ih=>rw [Rat.pow_succ,Rat.pow_succ,Rat.pow_succ,ih];grind
theorem LogTo.congr {u v:Nat→Rat} {D E:Rat} (h:LogTo u D) (e: ∀N,v N=u N) (hD:D=E):LogTo v E:=by
 obtain ⟨a,b,A,B,ha,hb,e1,hu⟩:=h
 exact ⟨a,b,A,B,ha,hb,by rw [←hD];exact e1,fun N=>by rw [e,hu]⟩
theorem EE_arg {x y:Rat} (hx:0≤x) (h:x≤y) (T:Nat):EE x T≤EE y T:=sumQ_le T (fun i _=>ep_mono hx h i)
theorem EE_eps {y:Rat} (hy:0≤y) (h:2*y≤1) (T:Nat):EE y T≤1+2*y:=by
 have hi:=EE_rest y hy h 1 T
 have e1:ep y 1=y:=by
  have h:=ep_succ y 0
  have e1:((0+1:Nat):Rat)=1:=rfl
  have e0:ep y 0=1:=rfl
  rw [e1,e0] at h
  grind
 rw [show 1+1=2 from rfl,EE_two,e1] at hi
 grind
theorem pow_le_pow' {a b:Rat} (ha:0≤a) (h:a≤b): ∀n:Nat,a^n≤b^n
 |0=>by rw [Rat.pow_zero,Rat.pow_zero];grind
 |n+1=>by
  rw [Rat.pow_succ,Rat.pow_succ]
  exact mul_le_mul2 (Rat.pow_nonneg ha) (pow_le_pow' ha h n) ha h
theorem pow_add' (x:Rat) (a:Nat): ∀b:Nat,x^(a+b)=x^a*x^b
 |0=>by rw [Nat.add_zero,Rat.pow_zero,Rat.mul_one]
 |b+1=>by rw [←Nat.add_assoc,Rat.pow_succ,Rat.pow_succ,pow_add' x a b];grind
theorem pow_mul' (x:Rat) (a:Nat): ∀k:Nat,x^(a*k)=(x^a)^k
 |0=>by rw [Nat.mul_zero,Rat.pow_zero,Rat.pow_zero]
 |k+1=>by rw [Nat.mul_succ,pow_add',Rat.pow_succ,pow_mul' x a k]
theorem dyQ_pos' {m:Nat} (h:0<m) (x0:Int):0<dyQ m x0:=by
 have P:=pow2_pos (-x0).toNat
 have Q:=pow2_pos x0.toNat
 have e:=dyQ_eq m x0
 have hm:(0:Rat)<(m:Rat):=Rat.natCast_pos.2 h
 have f:=Rat.mul_pos hm Q
 rw [←e] at f
 have a:=dyQ_nonneg m x0
 generalize dyQ m x0=y at *
 have hne:y≠0:=by
  intro hz
  rw [hz,Rat.mul_zero] at f
  exact absurd f (by grind)
 grind
def InS (D:Nat) (u:Nat→Rat) (x:Int×Int):Prop:= ∃N0,∀N,N0≤N→(x.1:Rat)≤(D:Rat)*u N∧(D:Rat)*u N≤(x.2:Rat)
def IsLf (u:Nat→Rat) (pl:Nat) (z:Int):Prop:= ∃(δ:Rat) (N0:Nat),0<δ∧ ∀N,N0≤N→(z:Rat)≤2^pl*u N∧2^pl*u N+δ≤((z+1:Int):Rat)
theorem lf_le {u v:Nat→Rat} (h:Near u v) {pl:Nat} {z w:Int} (a:IsLf u pl z) (b:IsLf v pl w):z≤w:=by
 obtain ⟨δ,N0,h0,h1⟩:=a
 obtain ⟨δ',M0,k0,k1⟩:=b
 have P:=pow2_pos pl
 obtain ⟨ε,hε⟩: ∃ε:Rat,ε=δ'/(2*2^pl):=⟨_,rfl⟩
 have e2:2*(2^pl*ε)=δ':=by rw [hε];grind
 have e0:0<ε:=Rat.not_le.1 (fun h=>by
  have:=Rat.mul_le_mul_of_nonneg_left h (show (0:Rat)≤2^pl by grind)
  grind)
 obtain ⟨L0,hL⟩:=h ε e0
 obtain ⟨-,l⟩:=hL (N0+M0+L0) (by omega)
 obtain ⟨x,-⟩:=h1 (N0+M0+L0) (by omega)
 obtain ⟨-,y⟩:=k1 (N0+M0+L0) (by omega)
 have m:=Rat.mul_le_mul_of_nonneg_left l (show (0:Rat)≤2^pl by grind)
 have:(z:Rat)<((w+1:Int):Rat):=by grind
 have:=Rat.intCast_lt_intCast.1 this
 omega
theorem lf_uniq {u v:Nat→Rat} (h:Near u v) {pl:Nat} {z w:Int} (a:IsLf u pl z) (b:IsLf v pl w):z=w:=Int.le_antisymm (lf_le h a b) (lf_le h.symm b a)
theorem int_two (x:Int) (n:Nat):((x*((2^n:Nat):Int):Int):Rat)=(x:Rat)*2^n:=by
 rw [Rat.intCast_mul,Rat.intCast_natCast,two_cast]
theorem lf_of {D:Nat} (hD:0<D) {u:Nat→Rat} {x:Int×Int} (h:InS D u x) (pl:Nat) (z:Int) (h1:x.1*((2^pl:Nat):Int)/(D:Int)=z) (h2:x.2*((2^pl:Nat):Int)/(D:Int)=z):IsLf u pl z:=by
 obtain ⟨N0,h⟩:=h
 have P:(0:Rat)<(D:Rat):=Rat.natCast_pos.2 hD
 have L:=pow2_pos pl
 have c1:z*(D:Int)≤x.1*((2^pl:Nat):Int):=by rw [←h1];exact Int.ediv_mul_le _ (by omega)
 have c2:x.2*((2^pl:Nat):Int)+1≤(z+1)*(D:Int):=by rw [←h2];exact Int.lt_ediv_add_one_mul_self _ (by omega)
 have d1:=Rat.intCast_le_intCast.2 c1
 have d2:=Rat.intCast_le_intCast.2 c2
 rw [int_two,Rat.intCast_mul,Rat.intCast_natCast] at d1
 rw [Rat.intCast_add,int_two,Rat.intCast_mul,Rat.intCast_natCast] at d2
 have o:((1:Int):Rat)=1:=rfl
 rw [o] at d2
 obtain ⟨δ,hδ⟩: ∃δ:Rat,δ=1/(D:Rat):=⟨_,rfl⟩
 have hδ2:(D:Rat)*δ=1:=by rw [hδ];grind
 refine ⟨δ,N0,?_,fun N hN=>?_⟩
 ·exact Rat.not_le.1 (fun h=>by
   have:=Rat.mul_le_mul_of_nonneg_left h (show (0:Rat)≤D by grind)
   grind)
 ·obtain ⟨a,b⟩:=h N hN
  have a2:=Rat.mul_le_mul_of_nonneg_left a (show (0:Rat)≤2^pl by grind)
  have b2:=Rat.mul_le_mul_of_nonneg_left b (show (0:Rat)≤2^pl by grind)
  constructor
  ·apply Rat.le_of_mul_le_mul_left _ P
   grind
  ·apply Rat.le_of_mul_le_mul_left _ P
   grind
def InV (D:Nat) (v:Rat) (x:PP):Prop:=(x.1:Rat)≤(D:Rat)*v∧(D:Rat)*v≤(x.2:Rat)
theorem InV.mul {D:Nat} (hD:0<D) {v w:Rat} {x y m:PP} (hv:0≤v) (hw:0≤w) (hx:InV D v x) (hy:InV D w y) (h1:m.1≤x.1*y.1/D) (h2:cdiv (x.2*y.2) D≤m.2):InV D (v*w) m:=by
 have P:(0:Rat)<(D:Rat):=Rat.natCast_pos.2 hD
 obtain ⟨a,b⟩:=hx
 obtain ⟨c,d⟩:=hy
 have lo:=mul_le_mul2 (Rat.natCast_nonneg (a:=x.1)) a (Rat.natCast_nonneg (a:=y.1)) c
 have hi:=mul_le_mul2 (Rat.mul_nonneg (show (0:Rat)≤D by grind) hv) b (Rat.mul_nonneg (show (0:Rat)≤D by grind) hw) d
 have f1:=fdiv_cast (x.1*y.1) D
 have f2:=cdiv_cast (x.2*y.2) D hD
 rw [cast_mul] at f1 f2
 have g1:=natle h1
 have g2:=natle h2
 generalize ((x.1*y.1/D:Nat):Rat)=X at *
 generalize ((cdiv (x.2*y.2) D:Nat):Rat)=Y at *
 have k1:=Rat.mul_le_mul_of_nonneg_right g1 (show (0:Rat)≤D by grind)
 have k2:=Rat.mul_le_mul_of_nonneg_right g2 (show (0:Rat)≤D by grind)
 constructor
 ·apply Rat.le_of_mul_le_mul_left _ P
  grind
 ·apply Rat.le_of_mul_le_mul_left _ P
  grind
theorem cdiv_up (a b:Nat):cdiv a b≤a/b+1:=by unfold cdiv;split<;>omega
theorem InV.tm {p:Nat} {v w:Rat} {x y:PP} (hv:0≤v) (hw:0≤w) (hx:InV (2^p) v x) (hy:InV (2^p) w y):InV (2^p) (v*w) (tmP x y p):=InV.mul (Nat.two_pow_pos p) hv hw hx hy (Nat.le_refl _) (Nat.le_refl _)
theorem InV.bm {D:Nat} (hD:0<D) {v w:Rat} {x y:PP} (hv:0≤v) (hw:0≤w) (hx:InV D v x) (hy:InV D w y):InV D (v*w) (bMul x y D):=InV.mul hD hv hw hx hy (Nat.le_refl _) (cdiv_up _ _)
theorem InV.ov {D:Nat} {v:Rat} {x m:PP} (n:Nat) (hn:0<n) (hx:InV D v x) (h1:m.1≤x.1/n) (h2:cdiv x.2 n≤m.2):InV D (v/(n:Rat)) m:=by
 have P:(0:Rat)<(n:Rat):=Rat.natCast_pos.2 hn
 obtain ⟨a,b⟩:=hx
 have f1:=fdiv_cast x.1 n
 have f2:=cdiv_cast x.2 n hn
 have g1:=natle h1
 have g2:=natle h2
 generalize ((x.1/n:Nat):Rat)=X at *
 generalize ((cdiv x.2 n:Nat):Rat)=Y at *
 have k1:=Rat.mul_le_mul_of_nonneg_right g1 (show (0:Rat)≤n by grind)
 have k2:=Rat.mul_le_mul_of_nonneg_right g2 (show (0:Rat)≤n by grind)
 have e:(n:Rat)*(v/(n:Rat))=v:=by grind
 constructor
 ·apply Rat.le_of_mul_le_mul_left _ P
  have:(n:Rat)*((D:Rat)*(v/(n:Rat)))=(D:Rat)*v:=by grind
  rw [this];grind
 ·apply Rat.le_of_mul_le_mul_left _ P
  have:(n:Rat)*((D:Rat)*(v/(n:Rat)))=(D:Rat)*v:=by grind
  rw [this];grind
theorem InV.add {D:Nat} {v w:Rat} {x y:PP} (hx:InV D v x) (hy:InV D w y):InV D (v+w) (plP x y):=by
 obtain ⟨a,b⟩:=hx
 obtain ⟨c,d⟩:=hy
 show ((x.1+y.1:Nat):Rat)≤_∧_≤((x.2+y.2:Nat):Rat)
 rw [Rat.natCast_add,Rat.natCast_add]
 constructor<;>grind
theorem least (P:Nat→Prop) (N:Nat) (h:P N): ∃n,n≤N∧P n∧ ∀i,i<n→ ¬P i:=by
 apply Classical.byContradiction
 intro hno
 have all: ∀n,n≤N→ ∀i,i≤n→ ¬P i:=by
  intro n
  induction n with
  |zero=>
   intro _ i hi hp
   exact hno ⟨0,by omega,by rw [show i=0 by omega] at hp;exact hp,fun i h=>by omega⟩
  |succ n ih=>
   intro hn i hi hp
   by_cases e:i=n+1
   ·exact hno ⟨n+1,hn,by rw [e] at hp;exact hp,fun i h=>ih (by omega) i (by omega)⟩
   ·exact ih (by omega) i (by omega) hp
 exact all N (Nat.le_refl _) N (Nat.le_refl _) h
def apP (z:PP) (p:Nat):Nat→PP
 |0=>z
 |k+1=>tmP (apP z p k) (tmP z z p) p
def asP (z:PP) (p:Nat):Nat→PP
 |0=>z
 |k+1=>plP (asP z p k) (ovP (apP z p (k+1)) (2*k+3))
def rpP (t:PP) (D:Nat):Nat→PP
 |0=>t
 |k+1=>bMul (rpP t D k) (bMul t t D) D
def rsP (t:PP) (D:Nat):Nat→PP
 |0=>bOv t 1
 |k+1=>plP (rsP t D k) (bOv (rpP t D (k+1)) (2*k+3))
theorem frB_half (r b D:Nat) (hb:0<b) (h:2*r≤b) (hD:2*(D/2)=D):2*(frB r b D).2≤D:=by
 have:(frB r b D).2≤D/2:=cdiv_le hb (by
  have e:r*D=2*r*(D/2):=by
   conv=>lhs;rw [←hD]
   rw [←Nat.mul_assoc,Nat.mul_comm r 2]
  rw [e,Nat.mul_comm (D/2)]
  exact Nat.mul_le_mul_right _ h)
 omega
theorem tm_wd {x y:PP} {p w v:Nat} (ha:x.1≤x.2) (hb:y.1≤y.2) (wa:x.2≤x.1+w) (wb:y.2≤y.1+v) (ma:x.2≤2^p) (mb:y.2≤2^p):(tmP x y p).2≤(tmP x y p).1+(w+v+2):=by
 have h:=(bMul_wd (D:=2^p) (M:=1) (Nat.two_pow_pos p) ha hb wa wb (by omega) (by omega)).1
 have e1:(tmP x y p).1=(bMul x y (2^p)).1:=rfl
 have e2:(tmP x y p).2≤(bMul x y (2^p)).2:=cdiv_up _ _
 omega
theorem ov_wd {x:PP} {w n:Nat} (hn:0<n) (wa:x.2≤x.1+w):x.2/n+1≤x.1/n+(w+2):=by
 have a:x.2/n≤(x.1+w)/n:=Nat.div_le_div_right wa
 have b:(x.1+w)/n≤x.1/n+(w+1):=by
  apply Nat.le_of_lt_succ
  apply (Nat.div_lt_iff_lt_mul hn).2
  have c:=div_lt_succ x.1 n hn
  have e:(x.1/n+(w+1)).succ*n=(x.1/n+1)*n+(w+1)*n:=by
   rw [←Nat.add_mul];congr 1;omega
  rw [e]
  have:=Nat.le_mul_of_pos_right (w+1) hn
  omega
 omega
theorem apP_top {z:PP} {p:Nat} (hp:2≤p) (hz:2*z.2≤2^p):(tmP z z p).2≤2^(p-2)∧ ∀k,(apP z p k).2≤2^(p-1-k):=by
 have e1:2^p=2^(p-1)*2:=by rw [←Nat.pow_succ];congr 1;omega
 have e2:2^(p-1)=2^(p-2)*2:=by rw [←Nat.pow_succ];congr 1;omega
 have z1:z.2≤2^(p-1):=by omega
 have hs:(tmP z z p).2≤2^(p-2):=by
  show cdiv (z.2*z.2) (2^p)≤_
  refine cdiv_le (Nat.two_pow_pos p) (Nat.le_trans (Nat.mul_le_mul z1 z1) (Nat.le_of_eq ?_))
  rw [←Nat.pow_add,←Nat.pow_add];congr 1;omega
 refine ⟨hs,fun k=>?_⟩
 induction k with
 |zero=>exact z1
 |succ k ih=>
  show cdiv ((apP z p k).2*(tmP z z p).2) (2^p)≤_
  refine cdiv_le (Nat.two_pow_pos p) (Nat.le_trans (Nat.mul_le_mul ih hs) ?_)
  rw [←Nat.pow_add,←Nat.pow_add]
  exact Nat.pow_le_pow_right (by omega) (by omega)
theorem apP_wd {z:PP} {p:Nat} (hp:2≤p) (hz:2*z.2≤2^p) (h01:z.1≤z.2) (hw:z.2≤z.1+1): ∀k,(apP z p k).2≤(apP z p k).1+(6*k+1)∧(apP z p k).1≤(apP z p k).2
 |0=>⟨hw,h01⟩
 |k+1=>by
  obtain ⟨a,b⟩:=apP_wd hp hz h01 hw k
  obtain ⟨s,t⟩:=apP_top hp hz
  have m1:(apP z p k).2≤2^p:=Nat.le_trans (t k) (Nat.pow_le_pow_right (by omega) (by omega))
  have m2:(tmP z z p).2≤2^p:=Nat.le_trans s (Nat.pow_le_pow_right (by omega) (by omega))
  have z2:z.2≤2^p:=by omega
  have q:=tm_wd h01 h01 hw hw z2 z2
  have r:=tm_wd b (tmP_le p h01 h01) a q m1 m2
  refine ⟨?_,tmP_le p b (tmP_le p h01 h01)⟩
  show (tmP (apP z p k) (tmP z z p) p).2≤(tmP (apP z p k) (tmP z z p) p).1+_
  omega
theorem sum_step (k a b c d w:Nat) (h:b≤a+(k+1)*(6*k+10)) (h2:d≤c+(6*(k+1)+1+2)):b+d≤a+c+(k+1+1)*(6*(k+1)+10):=by
 have e:(k+1+1)*(6*(k+1)+10)=(k+1)*(6*k+10)+(k+1)*6+(6*(k+1)+10):=by
  rw [Nat.add_mul (k+1) 1,←Nat.mul_add];congr 1
  ·congr 1;omega
 omega
theorem asP_wd {z:PP} {p:Nat} (hp:2≤p) (hz:2*z.2≤2^p) (h01:z.1≤z.2) (hw:z.2≤z.1+1): ∀k,(asP z p k).2≤(asP z p k).1+(k+1)*(6*k+10)∧(asP z p k).1≤(asP z p k).2
 |0=>⟨by show z.2≤z.1+_;omega,h01⟩
 |k+1=>by
  obtain ⟨a,b⟩:=asP_wd hp hz h01 hw k
  obtain ⟨c,d⟩:=apP_wd hp hz h01 hw (k+1)
  have o:=ov_wd (n:=2*k+3) (by omega) c
  have o2:(ovP (apP z p (k+1)) (2*k+3)).2≤(apP z p (k+1)).2/(2*k+3)+1:=cdiv_up _ _
  have o3:=ovP_le (2*k+3) (by omega) d
  have o4:(ovP (apP z p (k+1)) (2*k+3)).1=(apP z p (k+1)).1/(2*k+3):=rfl
  refine ⟨?_,?_⟩
  ·show (asP z p k).2+(ovP (apP z p (k+1)) (2*k+3)).2≤(asP z p k).1+(ovP (apP z p (k+1)) (2*k+3)).1+_
   exact sum_step k _ _ _ _ 0 a (by omega)
  ·show (asP z p k).1+(ovP (apP z p (k+1)) (2*k+3)).1≤(asP z p k).2+(ovP (apP z p (k+1)) (2*k+3)).2
   omega
theorem rpP_top {t:PP} {D:Nat} (hD:12≤D) (ht:2*t.2≤D):2*(bMul t t D).2≤D∧ ∀k,(rpP t D (k+1)).2≤(rpP t D k).2/2+1:=by
 have hs:2*(bMul t t D).2≤D:=by
  have a:4*(t.2*t.2/D)≤D:=by
   have h1:t.2*t.2/D*D≤t.2*t.2:=Nat.div_mul_le_self _ _
   have h2:=Nat.mul_le_mul ht ht
   have h3:2*t.2*(2*t.2)=4*(t.2*t.2):=by rw [Nat.mul_mul_mul_comm]
   rw [h3] at h2
   apply Nat.le_of_mul_le_mul_right _ (show 0<D by omega)
   rw [Nat.mul_assoc]
   omega
  show 2*(t.2*t.2/D+1)≤D
  omega
 refine ⟨hs,fun k=>?_⟩
 show (rpP t D k).2*(bMul t t D).2/D+1≤_
 have a:(rpP t D k).2*(bMul t t D).2/D≤(rpP t D k).2/2:=by
  rw [Nat.le_div_iff_mul_le (by omega)]
  apply Nat.le_of_mul_le_mul_right _ (show 0<D by omega)
  have h1:(rpP t D k).2*(bMul t t D).2/D*D≤(rpP t D k).2*(bMul t t D).2:=Nat.div_mul_le_self _ _
  have h2:=Nat.mul_le_mul_left (rpP t D k).2 hs
  have e:(rpP t D k).2*(bMul t t D).2/D*2*D=2*((rpP t D k).2*(bMul t t D).2/D*D):=by
   rw [Nat.mul_right_comm,Nat.mul_comm _ 2]
  have e2:(rpP t D k).2*(2*(bMul t t D).2)=2*((rpP t D k).2*(bMul t t D).2):=Nat.mul_left_comm _ _ _
  rw [e]
  rw [e2] at h2
  omega
 omega
theorem rpP_le {t:PP} {D:Nat} (hD:12≤D) (ht:2*t.2≤D): ∀k,(rpP t D k).2≤D
 |0=>by show t.2≤D;omega
 |k+1=>by
  have:=(rpP_top hD ht).2 k
  have:=rpP_le hD ht k
  omega
theorem rpP_wd {t:PP} {D:Nat} (hD:12≤D) (ht:2*t.2≤D) (h01:t.1≤t.2) (hw:t.2≤t.1+1): ∀k,(rpP t D k).2≤(rpP t D k).1+(6*k+1)∧(rpP t D k).1≤(rpP t D k).2
 |0=>⟨hw,h01⟩
 |k+1=>by
  obtain ⟨a,b⟩:=rpP_wd hD ht h01 hw k
  obtain ⟨s,-⟩:=rpP_top hD ht
  have m1:=rpP_le hD ht k
  have q:=bMul_wd (M:=1) (show 0<D by omega) h01 h01 hw hw (by omega) (by omega)
  have r:=bMul_wd (M:=1) (show 0<D by omega) b q.2 a q.1 (by omega) (by omega)
  refine ⟨?_,r.2⟩
  show (bMul (rpP t D k) (bMul t t D) D).2≤(bMul (rpP t D k) (bMul t t D) D).1+_
  omega
theorem rsP_wd {t:PP} {D:Nat} (hD:12≤D) (ht:2*t.2≤D) (h01:t.1≤t.2) (hw:t.2≤t.1+1): ∀k,(rsP t D k).2≤(rsP t D k).1+(k+1)*(6*k+10)∧(rsP t D k).1≤(rsP t D k).2
 |0=>⟨by show t.2/1+1≤t.1/1+_;rw [Nat.div_one,Nat.div_one];omega,by show t.1/1≤t.2/1+1;rw [Nat.div_one,Nat.div_one];omega⟩
 |k+1=>by
  obtain ⟨a,b⟩:=rsP_wd hD ht h01 hw k
  obtain ⟨c,d⟩:=rpP_wd hD ht h01 hw (k+1)
  have o:=ov_wd (n:=2*k+3) (by omega) c
  have o3:(rpP t D (k+1)).1/(2*k+3)≤(rpP t D (k+1)).2/(2*k+3):=Nat.div_le_div_right d
  refine ⟨?_,?_⟩
  ·show (rsP t D k).2+((rpP t D (k+1)).2/(2*k+3)+1)≤(rsP t D k).1+(rpP t D (k+1)).1/(2*k+3)+_
   exact sum_step k _ _ _ _ 0 a (by omega)
  ·show (rsP t D k).1+(rpP t D (k+1)).1/(2*k+3)≤(rsP t D k).2+((rpP t D (k+1)).2/(2*k+3)+1)
   omega
def sgS (neg:Bool) (u:Nat→Rat):Nat→Rat:=fun N=>if neg=true then -u N else u N
def zS (n:Int) (u:Nat→Rat):Nat→Rat:=fun N=>(n:Rat)*u N
def addS (u v:Nat→Rat):Nat→Rat:=fun N=>u N+v N
theorem LogTo.zS {u:Nat→Rat} (h:LogTo u 2) (n:Int):LogTo (Go.Ulp.zS n u) (dyQ 1 n):=by
 have o:((1:Nat):Rat)=1:=rfl
 have hn:=dyQ_eq 1 n
 rw [o] at hn
 rcases Int.lt_or_le n 0 with k|k
 ·obtain ⟨j,rfl⟩: ∃j:Nat,n= -(j:Int):=⟨n.natAbs,by omega⟩
  have e1:(-(j:Int)).toNat=0:=by omega
  have e2:(-(-(j:Int))).toNat=j:=by omega
  rw [e1,e2,Rat.pow_zero] at hn
  refine ((h.smul j).neg (E:=dyQ 1 (-(j:Int))) (by rw [hn];grind)).congr (fun N=>?_) rfl
  show ((-(j:Int):Int):Rat)*u N= -((j:Rat)*u N)
  rw [Rat.intCast_neg,Rat.intCast_natCast];grind
 ·obtain ⟨j,rfl⟩:=Int.eq_ofNat_of_zero_le k
  have e1:((j:Int)).toNat=j:=by omega
  have e2:(-(j:Int)).toNat=0:=by omega
  rw [e1,e2,Rat.pow_zero] at hn
  refine (h.smul j).congr (fun N=>?_) (by grind)
  show (((j:Nat):Int):Rat)*u N=_
  rw [Rat.intCast_natCast]
def LnB (D:Nat) (v:Nat→Rat) (x:PP):Prop:= ∃N0,∀N,N0≤N→(x.1:Rat)≤(D:Rat)*v N∧(D:Rat)*v N≤(x.2:Rat)
theorem LnB.add {D:Nat} {v w:Nat→Rat} {x y:PP} (h:LnB D v x) (k:LnB D w y):LnB D (addS v w) (plP x y):=by
 obtain ⟨A,h⟩:=h
 obtain ⟨B,k⟩:=k
 refine ⟨A+B,fun N hN=>?_⟩
 obtain ⟨a,b⟩:=h N (by omega)
 obtain ⟨c,d⟩:=k N (by omega)
 show ((x.1+y.1:Nat):Rat)≤(D:Rat)*(v N+w N)∧(D:Rat)*(v N+w N)≤((x.2+y.2:Nat):Rat)
 rw [Rat.natCast_add,Rat.natCast_add]
 constructor<;>grind
def sgP (x:PP) (neg:Bool):Int×Int:=if neg=true then (-(x.2:Int),-(x.1:Int)) else ((x.1:Int),(x.2:Int))
def mlP (M:Nat) (x:PP):PP:=(x.1*M,x.2*M)
def addI (x y:Int×Int):Int×Int:=(x.1+y.1,x.2+y.2)
theorem LnB.sg {D:Nat} {v:Nat→Rat} {x:PP} (h:LnB D v x) (neg:Bool):InS D (sgS neg v) (sgP x neg):=by
 obtain ⟨A,h⟩:=h
 refine ⟨A,fun N hN=>?_⟩
 obtain ⟨a,b⟩:=h N hN
 unfold sgS sgP
 cases neg
 ·simp only [Bool.false_eq_true,if_false]
  rw [Rat.intCast_natCast,Rat.intCast_natCast]
  exact ⟨a,b⟩
 ·simp only [if_true]
  rw [Rat.intCast_neg,Rat.intCast_neg,Rat.intCast_natCast,Rat.intCast_natCast]
  constructor<;>grind
theorem LnB.zs {D:Nat} {v:Nat→Rat} {x:PP} (h:LnB D v x) (n:Int):InS D (zS n v) (sgP (mlP n.natAbs x) (decide (n<0))):=by
 have k:LnB D (fun N=>(n.natAbs:Rat)*v N) (mlP n.natAbs x):=by
  obtain ⟨A,h⟩:=h
  refine ⟨A,fun N hN=>?_⟩
  obtain ⟨a,b⟩:=h N hN
  have m0:=Rat.natCast_nonneg (a:=n.natAbs)
  have a2:=Rat.mul_le_mul_of_nonneg_left a m0
  have b2:=Rat.mul_le_mul_of_nonneg_left b m0
  show ((x.1*n.natAbs:Nat):Rat)≤_∧_≤((x.2*n.natAbs:Nat):Rat)
  rw [cast_mul,cast_mul]
  constructor<;>grind
 have q:=k.sg (decide (n<0))
 obtain ⟨A,q⟩:=q
 refine ⟨A,fun N hN=>?_⟩
 have r:=q N hN
 have e:sgS (decide (n<0)) (fun N=>(n.natAbs:Rat)*v N) N=zS n v N:=by
  unfold sgS zS
  by_cases hn:n<0
  ·rw [decide_eq_true hn,if_pos rfl]
   have:(n:Rat)= -(n.natAbs:Rat):=by
    rw [←Rat.intCast_natCast,←Rat.intCast_neg];congr 1;omega
   rw [this];grind
  ·rw [decide_eq_false hn,if_neg (by simp)]
   have:(n:Rat)=(n.natAbs:Rat):=by
    rw [←Rat.intCast_natCast];congr 1;omega
   rw [this]
 rw [e] at r
 exact r
theorem InS.add {D:Nat} {v w:Nat→Rat} {x y:Int×Int} (h:InS D v x) (k:InS D w y):InS D (addS v w) (addI x y):=by
 obtain ⟨A,h⟩:=h
 obtain ⟨B,k⟩:=k
 refine ⟨A+B,fun N hN=>?_⟩
 obtain ⟨a,b⟩:=h N (by omega)
 obtain ⟨c,d⟩:=k N (by omega)
 show ((x.1+y.1:Int):Rat)≤(D:Rat)*(v N+w N)∧(D:Rat)*(v N+w N)≤((x.2+y.2:Int):Rat)
 rw [Rat.intCast_add,Rat.intCast_add]
 constructor<;>grind
def Wd (x:Int×Int) (w:Nat):Prop:=x.1≤x.2∧x.2≤x.1+(w:Int)
def LnOK (m:Nat) (e:Int) (D W:Nat) (x:Int×Int):Prop:= ∃u,LogTo u (dyQ m e)∧InS D u x∧Wd x (2^W)
theorem LnOK.uniq {m:Nat} {e:Int} {D D' W W':Nat} {x y:Int×Int} (h:LnOK m e D W x) (k:LnOK m e D' W' y) (hD:0<D) (hD':0<D') (pl:Nat) (z w:Int) (h1:x.1*((2^pl:Nat):Int)/(D:Int)=z) (h2:x.2*((2^pl:Nat):Int)/(D:Int)=z) (k1:y.1*((2^pl:Nat):Int)/(D':Int)=w) (k2:y.2*((2^pl:Nat):Int)/(D':Int)=w):z=w:=by
 obtain ⟨u,a,b,-⟩:=h
 obtain ⟨v,c,d,-⟩:=k
 exact lf_uniq (a.uniq c) (lf_of hD b pl z h1 h2) (lf_of hD' d pl w k1 k2)
def rtP (t:PP) (D k:Nat):PP:=(2*(rsP t D k).1,2*((rsP t D k).2+9))
theorem InV.frB {r b D:Nat} (hb:0<b) {ζ:Rat} (h:(b:Rat)*ζ=(r:Rat)):InV D ζ (Go.Ulp.frB r b D):=frB_in r b D hb ζ h
theorem frB_w (r b D:Nat):(frB r b D).1≤(frB r b D).2∧(frB r b D).2≤(frB r b D).1+1:=by
 constructor
 ·show r*D/b≤cdiv (r*D) b
  unfold cdiv;split<;>omega
 ·show cdiv (r*D) b≤r*D/b+1
  exact cdiv_up _ _
theorem Wd.mono {x:Int×Int} {w v:Nat} (h:Wd x w) (k:w≤v):Wd x v:=by obtain ⟨a,b⟩:=h;exact ⟨a,by omega⟩
open Go.RowKit
theorem cmpI_pos_mul (a b c:Int) (hc:0<c):cmpI (c*a) (c*b)=cmpI a b:=by
 have h1:c*a<c*b↔a<b:=⟨fun h=>Int.lt_of_mul_lt_mul_left h (Int.le_of_lt hc),fun h=>Int.mul_lt_mul_of_pos_left h hc⟩
 have h2:c*b<c*a↔b<a:=⟨fun h=>Int.lt_of_mul_lt_mul_left h (Int.le_of_lt hc),fun h=>Int.mul_lt_mul_of_pos_left h hc⟩
 unfold cmpI
 generalize c*a=u at *
 generalize c*b=v at *
 split<;>split<;>(try split)<;>(try split)<;>omega
theorem pw_1075:pw 1075=pw 1074*2:=by
 rw [show (1075:Nat)=1074+1 from rfl,pw_add,show pw 1=2 by decide]
theorem mul_1075 (x:Int):x*pw 1075=2*(x*pw 1074):=by
 rw [pw_1075]
 generalize pw 1074=P
 rw [←Int.mul_assoc,Int.mul_comm]
theorem st_mono {x y:Int} {D E:Nat} (hD:0<D) (hE:0<E) (h:x*(E:Int)≤y*(D:Int)):st x D≤st y E:=by
 rcases Int.lt_or_le (st y E) (st x D) with h9|h9
 ·exfalso
  have hd:(0:Int)<(D:Int):=by omega
  have he:(0:Int)<(E:Int):=by omega
  have hP:=pw_pos 1075
  obtain ⟨q,hq⟩: ∃q,q=x*pw 1075/(D:Int):=⟨_,rfl⟩
  have hs:st x D=2*q∧q*(D:Int)=x*pw 1075∨st x D=2*q+1∧q*(D:Int)<x*pw 1075:=by
   have e:=Int.emod_add_mul_ediv (x*pw 1075) (D:Int)
   have l0:=Int.emod_nonneg (x*pw 1075) (show (D:Int)≠0 by omega)
   rw [←hq,Int.mul_comm (D:Int) q] at e
   unfold st
   rw [←hq]
   split
   ·exact .inl ⟨by omega,by omega⟩
   ·exact .inr ⟨rfl,by omega⟩
  have hy:y*pw 1075≤q*(E:Int)∧(st x D=2*q→y*pw 1075<q*(E:Int)):=by
   have c:=st_cmp y q E hE
   constructor
   ·have: ¬cmpI (2*q) (st y E)<0:=fun h=>by have:=(cmpI_lt _ _).1 h;omega
    rw [c] at this
    exact Int.not_lt.1 fun h=>this ((cmpI_lt _ _).2 h)
   ·intro h1
    have:0<cmpI (2*q) (st y E):=(cmpI_gt _ _).2 (by omega)
    rw [c] at this
    exact (cmpI_gt _ _).1 this
  have hX:x*pw 1075*(E:Int)≤y*pw 1075*(D:Int):=by
   have:=Int.mul_le_mul_of_nonneg_right h (Int.le_of_lt hP)
   rw [Int.mul_assoc,Int.mul_comm (pw 1075),←Int.mul_assoc,Int.mul_assoc y,Int.mul_comm (pw 1075),←Int.mul_assoc]
   exact this
  generalize x*pw 1075=X at *
  generalize y*pw 1075=Y at *
  rcases hs with ⟨s1,s2⟩|⟨s1,s2⟩
  ·have h3:=hy.2 s1
   have h4:=Int.mul_lt_mul_of_pos_right h3 hd
   rw [←s2] at hX
   rw [Int.mul_assoc,Int.mul_comm (E:Int),←Int.mul_assoc] at h4
   omega
  ·have h4:=Int.mul_le_mul_of_nonneg_right hy.1 (Int.le_of_lt hd)
   have h5:=Int.mul_lt_mul_of_pos_right s2 he
   rw [Int.mul_assoc,Int.mul_comm (E:Int),←Int.mul_assoc] at h4
   omega
 ·exact h9
theorem prog_st (x:Int) (p:Nat) (mode:Int) (m0:0≤mode) (m1:mode≤4):Rnd 2 (st x (2^p)) mode (rX (nrm x (-(p:Int))) mode) (rC (nrm x (-(p:Int))) mode):=by
 obtain ⟨D,hD⟩: ∃D,D=nrm x (-(p:Int)):=⟨_,rfl⟩
 obtain ⟨k,a1,a2⟩:=nrm_rep x (-(p:Int))
 rw [←hD] at a1 a2 ⊢
 have h:=number_rnd (decide (D.1<0)) D.1.natAbs D.2 mode p m0 m1 (fun h=>decide_eq_false (by omega)) (by
  by_cases h0:x=0
  ·rw [hD,h0];show (0:Int)≤0+1074+(p:Int);omega
  ·have:=a2 h0;omega)
 have e:sg (decide (D.1<0)) ((D.1.natAbs*2^(D.2+1074+(p:Int)).toNat:Nat):Int)=x*pw 1074:=by
  rw [Int.natCast_mul,←pw_nat]
  by_cases h0:x=0
  ·have hd:D.1=0:=by rw [hD,h0];rfl
   rw [hd,h0]
   show sg _ (0*_)=0*_
   rw [Int.zero_mul,Int.zero_mul]
   unfold sg;split<;>rfl
  ·have e2:=a2 h0
   have e3:(D.2+1074+(p:Int)).toNat=k+1074:=by omega
   rw [e3,a1,Int.mul_assoc,←pw_add]
   unfold sg
   by_cases hn:D.1<0
   ·rw [decide_eq_true hn,if_pos rfl,←Int.neg_mul];congr 1;omega
   ·rw [decide_eq_false hn,if_neg (by decide)];congr 1;omega
 rw [e] at h
 have hP:(0:Nat)<2^p:=Nat.two_pow_pos p
 refine h.same (fun r=>?_) (fun r=>?_) ?_
 ·rw [cR_st x _ hP,mul_1075]
  unfold cR rT
  rw [pw_nat p]
  generalize x*pw 1074=Y
  rw [Int.mul_assoc 2,cmpI_pos_mul _ _ 2 (by omega)]
 ·rw [cM_st x _ hP,mul_1075]
  unfold cM rT
  rw [cmpI_swap,pw_nat p]
  generalize x*pw 1074=Y
  rw [←Int.add_mul]
 ·rw [st_sign x _ hP]
  have p0:=pw_pos 1074
  have:=cmpI_pos_mul x 0 (pw 1074) p0
  rw [Int.mul_zero,Int.mul_comm] at this
  exact this
theorem rnd_odd {V mode x:Int} {ch:Bool} (h:Rnd 2 V mode x ch) (hV:V%2=1):ch=true:=by
 obtain ⟨l,hl,e⟩:=h
 have f:=congrArg Prod.snd e
 simp only at f
 rw [f]
 unfold ansR
 rw [if_neg]
 ·split<;>rfl
 ·rintro ⟨-,h2⟩
  unfold cR rT at h2
  have:=(cmpI_eq_zero _ _).1 h2
  rw [show pw 2=4 by decide] at this
  omega
theorem rnd_two {V1 V2 U1 U2 mode x y:Int} {a1 a2 b1 b2:Bool} (h1:Rnd 2 V1 mode x a1) (h2:Rnd 2 V2 mode x a2) (k1:Rnd 2 U1 mode y b1) (k2:Rnd 2 U2 mode y b2) (a:V1≤U2) (b:U1≤V2) (n1:V1≠0) (n2:V2≠0) (n3:U1≠0) (n4:U2≠0):x=y:=by
 rcases Int.le_total V1 U1 with h|h
 ·exact (rnd_mid h1 h2 k1 h b n1 n2).symm
 ·exact rnd_mid k1 k2 h1 h a n3 n4
theorem read_st (A B:Nat) (hA:0<A) (hB:0<B) (neg:Bool) (mode:Int) (m0:0≤mode) (m1:mode≤4) (l:Nat) (l1:(l:Int)<9218868437227405312) (l2:rdC 1074 A B l≤0) (l3:(l:Int)+1=9218868437227405312∨0<rdC 1074 A B ((l:Int)+1)):
 ∃ch,Rnd 2 (sg neg (st (A:Int) B)) mode ((rdA 1074 A B (if neg=true then swM mode else mode) l).1+sgb neg) ch:=by
 have hpos:0<st (A:Int) B:=by
  have e:=st_sign (A:Int) B hB
  have:0<cmpI (st (A:Int) B) 0:=by rw [e];exact (cmpI_gt _ _).2 (by omega)
  exact (cmpI_gt _ _).1 this
 obtain ⟨M,hM⟩:=Int.eq_ofNat_of_zero_le (Int.le_of_lt hpos)
 have hM0:0<M:=by rw [hM] at hpos;exact Int.ofNat_lt.1 hpos
 have e0:(-1076+1074+((2:Nat):Int)).toNat=0:=by decide
 have eM:((M*2^(-1076+1074+((2:Nat):Int)).toNat:Nat):Int)=st (A:Int) B:=by rw [e0,Nat.pow_zero,Nat.mul_one,hM]
 have SC:SameC 2 ((M*2^(-1076+1074+((2:Nat):Int)).toNat:Nat):Int) 1074 A B:=by
  rw [eM]
  constructor
  ·intro r _
   rw [cR_st _ _ hB,mul_1075]
   unfold rdC
   generalize (A:Int)*pw 1074=Y
   rw [Int.mul_assoc 2,cmpI_pos_mul _ _ 2 (by omega)]
  ·intro r _
   rw [cM_st _ _ hB,mul_1075]
   unfold rdM
   generalize (A:Int)*pw 1074=Y
   rfl
 have r:=read_sg neg M (-1076) mode 1074 A B 2 l m0 m1 hM0 (by decide) SC l1 l2 l3
 have n:=number_rnd neg M (-1076) mode 2 m0 m1 (fun h=>by omega) (by decide)
 rw [eM,r.1] at n
 exact ⟨_,n⟩
theorem st_neg (x:Int) (D:Nat) (hD:0<D):st (-x) D= -st x D:=by
 have key: ∀G:Int,cmpI (2*G) (st (-x) D)=cmpI (2*G) (-st x D):=by
  intro G
  have h1:=st_cmp (-x) G D hD
  have h2:=st_cmp x (-G) D hD
  rw [h1]
  have e1:cmpI (2*G) (-st x D)= -cmpI (2 * -G) (st x D):=by
   rw [←cmpI_neg_neg];congr 1;omega
  rw [e1,h2,←cmpI_neg_neg]
  congr 1
  ·rw [←Int.neg_mul,Int.neg_neg]
  ·rw [Int.neg_mul]
 have a:=key ((st (-x) D)/2)
 have b:=key ((-st x D)/2)
 generalize st (-x) D=u at *
 generalize -st x D=v at *
 unfold cmpI at a b
 have c:=key (u/2)
 have c':=key (v/2)
 have d:=key (u/2+1)
 have d':=key (v/2+1)
 unfold cmpI at c d c' d'
 split at a<;>split at a<;>(try split at a)<;>(try split at a)<;>split at b<;>split at b<;>(try split at b)<;>(try split at b)<;>omega
theorem asP_top {z:PP} {p:Nat} (hp:2≤p) (hz:2*z.2≤2^p): ∀k,(asP z p k).2≤(k+1)*2^p
 |0=>by show z.2≤_;omega
 |k+1=>by
  have a:=asP_top hp hz k
  have b:=(apP_top hp hz).2 (k+1)
  have c:(apP z p (k+1)).2≤2^p:=Nat.le_trans b (Nat.pow_le_pow_right (by omega) (by omega))
  have d:cdiv (apP z p (k+1)).2 (2*k+3)≤(apP z p (k+1)).2:=cdiv_self_le _ _ (by omega)
  have e:(k+1+1)*2^p=(k+1)*2^p+2^p:=Nat.succ_mul _ _
  show (asP z p k).2+cdiv (apP z p (k+1)).2 (2*k+3)≤_
  omega
structure AtOK (num den p k:Nat):Prop where
 hd:0<den
 h2:2*num≤den
 ln:num≤2^9000
 ld:den≤2^9000
 p0:20≤p
 p1:p≤34359738368
 k1:k≤p
 e1:(apP (frB num den (2^p)) p k).2≤1
 e2: ∀i,i<k→ ¬(apP (frB num den (2^p)) p i).2≤1
theorem even_two {p:Nat} (hp:1≤p):2*(2^p/2)=2^p:=by
 have:2^p=2^(p-1)*2:=by rw [←Nat.pow_succ];congr 1;omega
 omega
theorem AtOK.half {num den p k:Nat} (h:AtOK num den p k):2*(frB num den (2^p)).2≤2^p:=frB_half num den _ h.hd h.h2 (even_two (by have:=h.p0;omega))
theorem AtOK.pw {num den p k:Nat} (h:AtOK num den p k) (i:Nat):(apP (frB num den (2^p)) p i).1≤2^p∧(apP (frB num den (2^p)) p i).2≤2^p:=by
 have p0:=h.p0
 obtain ⟨a,b⟩:=frB_w num den (2^p)
 have c:=(apP_wd (show 2≤p by omega) h.half a b i).2
 have d:=(apP_top (show 2≤p by omega) h.half).2 i
 have e:(apP (frB num den (2^p)) p i).2≤2^p:=Nat.le_trans d (Nat.pow_le_pow_right (by omega) (by omega))
 omega
theorem AtOK.sm {num den p k:Nat} (h:AtOK num den p k) (i:Nat) (hi:i≤p):(asP (frB num den (2^p)) p i).1≤2^(p+36)∧(asP (frB num den (2^p)) p i).2≤2^(p+36):=by
 have p0:=h.p0
 have p1:=h.p1
 obtain ⟨a,b⟩:=frB_w num den (2^p)
 have c:=(asP_wd (show 2≤p by omega) h.half a b i).2
 have d:=asP_top (show 2≤p by omega) h.half i
 have e:(i+1)*2^p≤2^36*2^p:=Nat.mul_le_mul_right _ (Nat.le_trans (show i+1≤68719476736 by omega) (by decide))
 have f:2^36*2^p=2^(p+36):=by rw [←Nat.pow_add];congr 1;omega
 omega
theorem ln_cross {m:Nat} {e:Int} {D W E W':Nat} {x y:Int×Int} (h:LnOK m e D W x) (k:LnOK m e E W' y) (hD:0<D) (hE:0<E):x.1*(E:Int)≤y.2*(D:Int):=by
 obtain ⟨u,a,⟨N0,b⟩,-⟩:=h
 obtain ⟨v,c,⟨N1,d⟩,-⟩:=k
 rcases Int.lt_or_le (y.2*(D:Int)) (x.1*(E:Int)) with h9|h9
 ·exfalso
  have hd:(0:Rat)<(D:Rat):=Rat.natCast_pos.2 hD
  have he:(0:Rat)<(E:Rat):=Rat.natCast_pos.2 hE
  have hde:=Rat.mul_pos hd he
  have h8:((y.2*(D:Int)+1:Int):Rat)≤((x.1*(E:Int):Int):Rat):=Rat.intCast_le_intCast.2 (by omega)
  rw [Rat.intCast_add,Rat.intCast_mul,Rat.intCast_mul] at h8
  have c1:((D:Int):Rat)=(D:Rat):=rfl
  have c2:((E:Int):Rat)=(E:Rat):=rfl
  have c3:((1:Int):Rat)=1:=rfl
  rw [c1,c2,c3] at h8
  have h6:(0:Rat)<1/(2*((D:Rat)*(E:Rat))):=by
   rw [Rat.div_def,Rat.one_mul]
   exact Rat.inv_pos.2 (by grind)
  obtain ⟨N2,hN2⟩:=a.uniq c _ h6
  obtain ⟨N,hN⟩: ∃N,N0≤N∧N1≤N∧N2≤N:=⟨N0+N1+N2,by omega,by omega,by omega⟩
  have b1:=(b N hN.1).1
  have d1:=(d N hN.2.1).2
  have f1:=(hN2 N hN.2.2).2
  have g1:=Rat.mul_le_mul_of_nonneg_right b1 (show (0:Rat)≤(E:Rat) by grind)
  have g2:=Rat.mul_le_mul_of_nonneg_right d1 (show (0:Rat)≤(D:Rat) by grind)
  have g3:=Rat.mul_le_mul_of_nonneg_left f1 (show (0:Rat)≤(D:Rat)*(E:Rat) by grind)
  have g4:(D:Rat)*(E:Rat)*(1/(2*((D:Rat)*(E:Rat))))=1/2:=by grind
  rw [g4] at g3
  generalize u N=p at *
  generalize v N=q at *
  grind
 ·exact h9
def LnR (m:Nat) (e:Int) (mode X:Int):Prop:= ∃(D W:Nat) (x:Int×Int) (c1 c2:Bool),0<D∧LnOK m e D W x∧Rnd 2 (st x.1 D) mode X c1∧Rnd 2 (st x.2 D) mode X c2∧st x.1 D≠0∧st x.2 D≠0
theorem LnR.uniq {m:Nat} {e mode X Y:Int} (h:LnR m e mode X) (k:LnR m e mode Y):X=Y:=by
 obtain ⟨D,W,x,c1,c2,hD,h1,h2,h3,h4,h5⟩:=h
 obtain ⟨E,W',y,d1,d2,hE,k1,k2,k3,k4,k5⟩:=k
 exact rnd_two h2 h3 k2 k3 (st_mono hD hE (ln_cross h1 k1 hD hE)) (st_mono hE hD (ln_cross k1 h1 hE hD)) h4 h5 k4 k5
def P2 (t:TypeId) (w:World) (g:Nat) (v0 v1:Value):Prop:=
 w.cell? ⟨g,0,none⟩=some v0∧w.cell? ⟨g,1,none⟩=some v1∧w.frozen? ⟨g,0,none⟩=false∧w.frozen? ⟨g,1,none⟩=false∧ElemIs w g t
theorem P2.lt {t:TypeId} {w:World} {g:Nat} {v0 v1:Value} (h:P2 t w g v0 v1):g<w.heap.size:=h.2.2.2.2.lt
theorem P2.below {t:TypeId} {w w':World} {g:Nat} {v0 v1:Value} (h:P2 t w g v0 v1) (hb:Below w.heap.size w w'):P2 t w' g v0 v1:=by
 have hB:=h.lt
 obtain ⟨h0,h1,f0,f1,he⟩:=h
 exact ⟨(hb.cell (p:=⟨g,0,none⟩) hB).trans h0,(hb.cell (p:=⟨g,1,none⟩) hB).trans h1,(hb.frozen (p:=⟨g,0,none⟩) hB).trans f0,(hb.frozen (p:=⟨g,1,none⟩) hB).trans f1,he.belowB hb hB⟩
theorem P2.made {t:TypeId} {w:World} {g:Nat} {v0 v1:Value} (hg:g=w.heap.size):P2 t (w.alloc (.cells #[v0,v1] t)) g v0 v1:=by
 subst hg
 refine ⟨?_,?_,?_,?_,ElemIs.made _ _ _⟩
 all_goals first
  |(rw [World.cell?_alloc_at (hn:=rfl)];rfl)
  |(unfold World.frozen?;rw [heap_alloc_new];simp)
theorem P2.put {t:TypeId} {w:World} {g:Nat} {v0 v1:Value} (h:P2 t w g v0 v1) (u0 u1:Value):P2 t ((w.setCell ⟨g,0,none⟩ u0).setCell ⟨g,1,none⟩ u1) g u0 u1:=by
 obtain ⟨h0,h1,f0,f1,he⟩:=h
 have a:(w.setCell ⟨g,0,none⟩ u0).cell? ⟨g,0,none⟩=some u0:=World.cell?_setCell_same _ _ _ h0
 have b:(w.setCell ⟨g,0,none⟩ u0).cell? ⟨g,1,none⟩=some v1:=(cell_set_ne (by omega)).trans h1
 exact ⟨(cell_set_ne (by omega)).trans a,World.cell?_setCell_same _ _ _ b,(frozen_setCell _ _ _ _).trans ((frozen_setCell _ _ _ _).trans f0),(frozen_setCell _ _ _ _).trans ((frozen_setCell _ _ _ _).trans f1),(he.setCell _ _).setCell _ _⟩
theorem P2.far {t:TypeId} {w:World} {g:Nat} {v0 v1:Value} (h:P2 t w g v0 v1) (a:Addr) (u:Value) (hne:g≠a.block):P2 t (w.setCell a u) g v0 v1:=by
 obtain ⟨h0,h1,f0,f1,he⟩:=h
 have c: ∀o v,w.cell? ⟨g,o,none⟩=some v→(w.setCell a u).cell? ⟨g,o,none⟩=some v:=fun o v hv=>by
  rw [World.cell?_setCell_other (h:=fun e=>hne (by rw [e]))];exact hv
 exact ⟨c _ _ h0,c _ _ h1,(frozen_setCell _ _ _ _).trans f0,(frozen_setCell _ _ _ _).trans f1,he.setCell _ _⟩
theorem Ns.put2 {t:TypeId} {w:World} {g:Nat} {v0 v1:Value} {ao:Option Addr} {cap:Nat} {L:List Nat} (h:Ns .u32 w ao cap L) (z:P2 t w g v0 v1) (k0: ∀x,v0≠ .int .u32 x) (k1: ∀x,v1≠ .int .u32 x) (u0 u1:Value):
 Ns .u32 ((w.setCell ⟨g,0,none⟩ u0).setCell ⟨g,1,none⟩ u1) ao cap L:=by
 obtain ⟨h0,h1,-⟩:=z
 exact Ns.setCell_kind (Ns.setCell_kind h ⟨g,0,none⟩ u0 v0 h0 k0) ⟨g,1,none⟩ u1 v1 ((cell_set_ne (by omega)).trans h1) k1
theorem below_put2 {B:Nat} {w w':World} (h:Below B w w') {g:Nat} (hg:B≤g) (u0 u1:Value):Below B w ((w'.setCell ⟨g,0,none⟩ u0).setCell ⟨g,1,none⟩ u1):=
 (h.setCell (p:=⟨g,0,none⟩) hg _).setCell (p:=⟨g,1,none⟩) hg _
def PR (w:World) (x:PP) (v:Value):Prop:=
 ∃a b c d,v=.agg #[.slice a (limbs x.1).length c,.slice b (limbs x.2).length d]∧Ns .u32 w a c (limbs x.1)∧Ns .u32 w b d (limbs x.2)
theorem PR.below {w w':World} {x:PP} {v:Value} (h:PR w x v) (hb:Below w.heap.size w w'):PR w' x v:=by
 obtain ⟨a,b,c,d,h1,h2,h3⟩:=h;exact ⟨a,b,c,d,h1,h2.below hb,h3.below hb⟩
def RetPR (w:World) (x:PP) (e:Ending) (w':World):Prop:= ∃v,e=.returned v∧PR w' x v∧Below w.heap.size w w'
def Fact.pr (x:PP):Fact:=⟨fun v w=>PR w x v,fun _ _ _ h hb=>h.below hb⟩
theorem sl_no {a:Option Addr} {n c:Nat}: ∀x,Value.slice a n c≠ .int .u32 x:=by intro x h;cases h
theorem lost_cdiv (m n:Nat):cdiv m (2^n)=if lostB m n=true then m/2^n+1 else m/2^n:=by
 unfold cdiv lostB
 by_cases h:m%2^n=0
 ·rw [if_pos h,if_neg (by simpa using h)]
 ·rw [if_neg h,if_pos (by simpa using h)]
end Go.Ulp
namespace Go.Proofs.YtehhegbkahnhgaaGreatDoor
open Go.RowKit Go.Ulp
set_option maxHeartbeats 2000000
set_option maxRecDepth 100000
theorem half_any (x:PP) (n:Nat) (v:Value) (w:World) (hv:PR w x v) (l1:(limbs x.1).length≤4294967296) (l2:(limbs x.2).length≤4294967296) (hn:n≤1099511627776):
 Calls Tryz.prog 132 #[v,.int .i64 (n:Int)] w (RetPR w (hfP x n)):=by
 obtain ⟨l,h⟩:=x
 obtain ⟨a,b,c,d,rfl,h0,h1⟩:=hv
 simp only at *
 have R0:=hid (fun w k=>right_any a c l n w k l1 (by omega))
 have R1:=hid (fun w k=>right_any b d h n w k l2 (by omega))
 have l3:(limbs (h/2^n)).length≤4294967296:=Nat.le_trans (limbs_len_mono (Nat.div_le_self _ _)) l2
 have OF:=hid (show ∀w,Calls Tryz.prog 66 #[.int .u64 1] w fun e w'=>RetN w 1 e w' from fun w=>natOf_any 1 (by omega) w)
 have PL:=hid (fun a c b d w k1 k2=>plus_any a b c d (h/2^n) 1 w k1 k2 l3 (by decide))
 have zA:P2 100 ((w.alloc (.cells #[.slice a (limbs l).length c,.slice b (limbs h).length d] 100)).alloc (.cells #[.slice none 0 0,.slice none 0 0] 100)) w.heap.size (.slice a (limbs l).length c) (.slice b (limbs h).length d):=(P2.made rfl).below (below_alloc _ _)
 have zR:P2 100 ((w.alloc (.cells #[.slice a (limbs l).length c,.slice b (limbs h).length d] 100)).alloc (.cells #[.slice none 0 0,.slice none 0 0] 100)) (w.heap.size+1) (.slice none 0 0) (.slice none 0 0):=P2.made (by simp)
 have yb0:Below w.heap.size w ((w.alloc (.cells #[.slice a (limbs l).length c,.slice b (limbs h).length d] 100)).alloc (.cells #[.slice none 0 0,.slice none 0 0] 100)):=by (repeat' first|(with_reducible first|assumption|apply bR|apply bA|apply bN|apply bD|apply bL|apply bS)|refine bT ?_ (by assumption)|go_size)
 have HX:=hid (show hfP (l,h) n=(l/2^n,if lostB h n=true then h/2^n+1 else h/2^n) by unfold hfP;rw [lost_cdiv])
 have H0:=hid h0
 have H1:=hid h1
 obtain ⟨q0,hq0⟩: ∃q,q=l/2^n:=⟨_,rfl⟩
 obtain ⟨q1,hq1⟩: ∃q,q=h/2^n:=⟨_,rfl⟩
 rw [←hq0] at R0 HX
 rw [←hq1] at R1 PL HX
 clear h0 h1 hq0 hq1 l1 l2 l3
 obtain ⟨ls,hls⟩: ∃b,b=lostB h n:=⟨_,rfl⟩
 rw [←hls] at R1 HX
 clear hls
 rw [HX.out]
 clear HX
 go_enter Tryz.func132,Tryz.ntmps132
 obtain ⟨j0,j1,-⟩:=id zA
 go_upto_region 2 with (go_at_call 107;(with_reducible refine (R0.out _ (H0.out.below yb0)).mono ?_);rintro en w1 ⟨b0,rfl,hN1,hb1⟩)
 have yb1:=below_trans yb0 hb1
 have zA1:=zA.below hb1
 have zR1:=zR.below hb1
 clear zA zR j0 j1 hb1 yb0
 obtain ⟨j0,j1,-⟩:=id zA1
 go_upto_region 3 with (go_at_call 107;(with_reducible refine (R1.out _ (H1.out.below yb1)).mono ?_);rintro en w2 ⟨b1,rfl,hN2,hb2⟩)
 have yb2:=below_trans yb1 hb2
 have zR2:=zR1.below hb2
 have hM1:=hN1.below hb2
 clear zA1 zR1 j0 j1 hN1 yb1 hb2 R0 R1
 cases ls
 ·obtain ⟨k0,k1,f0,f1,-⟩:=id zR2
  go_wp2_with fail
  refine bodyPost_ret (by simp [results,Tryz.results132,go_sem,k0,k1];try rfl) rfl ?_
  exact ⟨_,rfl,⟨_,_,_,_,rfl,hM1.put2 zR2 sl_no sl_no _ _,hN2.put2 zR2 sl_no sl_no _ _⟩,below_put2 yb2 (by omega) _ _⟩
 ·go_upto_region 5 with (first
   |(go_at_call 66;(with_reducible refine (OF.out _).mono ?_);rintro en w3 ⟨b3,rfl,hN3,hb3⟩)
   |(go_at_call 70;(with_reducible refine (PL.out _ _ _ _ _ (hN2.below hb3) hN3).mono ?_);rintro en w4 ⟨b4,rfl,hN4,hb4⟩))
  have yb4:=below_trans (below_trans yb2 hb3) hb4
  have zR4:=(zR2.below hb3).below hb4
  have hM4:=(hM1.below hb3).below hb4
  clear zR2 hM1 hN2 hN3 yb2 hb3 hb4
  obtain ⟨k0,k1,f0,f1,-⟩:=id zR4
  go_wp2_with fail
  refine bodyPost_ret (by simp [results,Tryz.results132,go_sem,k0,k1];try rfl) rfl ?_
  exact ⟨_,rfl,⟨_,_,_,_,rfl,hM4.put2 zR4 sl_no sl_no _ _,hN4.put2 zR4 sl_no sl_no _ _⟩,below_put2 yb4 (by omega) _ _⟩
end Go.Proofs.YtehhegbkahnhgaaGreatDoor
