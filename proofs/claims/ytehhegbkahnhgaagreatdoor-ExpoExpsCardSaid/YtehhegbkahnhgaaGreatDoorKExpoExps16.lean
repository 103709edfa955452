/- ExpoExps: what the proof leans on, part 16 (Gp2 Gp3 Gp4 Gp5). -/
import Derived.Test.YtehhegbkahnhgaaGreatDoorKExpoExps15
set_option linter.unusedVariables false
set_option linter.unusedSimpArgs false
namespace Go.Ulp
theorem mul_bd2 {a b A B:Rat} (a1: -A≤a) (a2:a≤A) (b1: -B≤b) (b2:b≤B): -(A*B)≤a*b∧a*b≤A*B:=by
 have p:=Rat.mul_nonneg (show 0≤A-a by grind) (show 0≤B+b by grind)
 have q:=Rat.mul_nonneg (show 0≤A+a by grind) (show 0≤B-b by grind)
 have r:=Rat.mul_nonneg (show 0≤A-a by grind) (show 0≤B-b by grind)
 have s:=Rat.mul_nonneg (show 0≤A+a by grind) (show 0≤B+b by grind)
 constructor<;>grind
theorem sumQ_near {f g:Nat→Rat} {c:Rat}: ∀n,(∀i,i<n→ -c≤f i-g i∧f i-g i≤c)→ -((n:Rat)*c)≤sumQ f n-sumQ g n∧sumQ f n-sumQ g n≤(n:Rat)*c
 |0,_=>by
  have e0:((0:Nat):Rat)=0:=rfl
  rw [e0];simp only [sumQ];constructor<;>grind
 |n+1,h=>by
  obtain ⟨a,b⟩:=sumQ_near n (fun i hi=>h i (by omega))
  obtain ⟨d,e⟩:=h n (by omega)
  rw [sumQ_succ,sumQ_succ,cast_succ]
  constructor<;>grind
theorem sumQ_term {f:Nat→Rat} (hf: ∀i,0≤f i) {j n:Nat} (h:j<n):f j≤sumQ f n:=by
 have a:=sumQ_mono hf (show j+1≤n by omega)
 have b:=sumQ_nonneg (f:=f) j (fun i _=>hf i)
 rw [sumQ_succ] at a
 grind
theorem pow_ge_one {R:Rat} (h:1≤R): ∀k:Nat,1≤R^k
 |0=>by rw [Rat.pow_zero];grind
 |k+1=>by
  have a:=pow_ge_one h k
  have b:=Rat.mul_le_mul_of_nonneg_left h (show 0≤R^k by grind)
  rw [Rat.pow_succ];grind
theorem pow_mono_exp {R:Rat} (h:1≤R) {a b:Nat} (hab:a≤b):R^a≤R^b:=by
 induction b with
 |zero=>rw [show a=0 by omega];grind
 |succ b ih=>
  by_cases e:a=b+1
  ·rw [e];grind
  ·have i:=ih (by omega)
   have p:=pow_ge_one h b
   have q:=Rat.mul_le_mul_of_nonneg_left h (show 0≤R^b by grind)
   rw [Rat.pow_succ];grind
theorem pow_mono_base {y R:Rat} (h0:0≤y) (h:y≤R): ∀k:Nat,y^k≤R^k
 |0=>by rw [Rat.pow_zero,Rat.pow_zero];grind
 |k+1=>by
  have a:=pow_mono_base h0 h k
  have b:=Rat.mul_le_mul_of_nonneg_right a h0
  have c:=Rat.mul_le_mul_of_nonneg_left h (Rat.pow_nonneg (n:=k) (show 0≤R by grind))
  rw [Rat.pow_succ,Rat.pow_succ];grind
theorem pow_near {y r R e:Rat} (hR:1≤R) (y0:0≤y) (y1:y≤R) (r0:0≤r) (r1:r≤R) (h1: -e≤y-r) (h2:y-r≤e): ∀k:Nat,-((k:Rat)*R^k*e)≤y^k-r^k∧y^k-r^k≤(k:Rat)*R^k*e
 |0=>by
  have e0:((0:Nat):Rat)=0:=rfl
  rw [e0,Rat.pow_zero,Rat.pow_zero];constructor<;>grind
 |k+1=>by
  obtain ⟨i1,i2⟩:=pow_near hR y0 y1 r0 r1 h1 h2 k
  have e0:0≤e:=by grind
  have p0:=Rat.pow_nonneg (n:=k) y0
  have p1:=pow_mono_base y0 y1 k
  have g1:=pow_ge_one hR k
  obtain ⟨a1,a2⟩:=mul_bd2 (a:=y^k) (A:=R^k) (b:=y-r) (B:=e) (by grind) p1 h1 h2
  obtain ⟨b1,b2⟩:=mul_bd2 (a:=r) (A:=R) (b:=y^k-r^k) (B:=(k:Rat)*R^k*e) (by grind) r1 i1 i2
  have s1:y^(k+1)-r^(k+1)=y^k*(y-r)+r*(y^k-r^k):=by rw [Rat.pow_succ,Rat.pow_succ];grind
  have t1:R^k*e≤R^(k+1)*e:=Rat.mul_le_mul_of_nonneg_right (pow_mono_exp hR (by omega)) e0
  have t2:((k+1:Nat):Rat)*R^(k+1)*e=R^(k+1)*e+R*((k:Rat)*R^k*e):=by rw [cast_succ,Rat.pow_succ];grind
  rw [s1,t2]
  constructor<;>grind
theorem near_pow (x r R eps:Rat) (m:Nat) (hx:0≤x) (hr:0≤r) (hR:1≤R) (hrR:r≤R) (hE: ∀T,EE x T≤R) (S0:Nat) (hS: ∀T,S0≤T→ -eps≤EE x T-r∧EE x T-r≤eps) (k:Nat) (hk:k≤m):
 ∃T0,∀T,T0≤T→ -((m:Rat)*R^m*eps)≤EE ((k:Rat)*x) T-r^k∧EE ((k:Rat)*x) T-r^k≤(m:Rat)*R^m*eps:=by
 obtain ⟨T',hT'⟩:=EE_pow_ge x hx k S0
 have e0:0≤eps:=by have:=hS S0 (Nat.le_refl _);grind
 have c:(k:Rat)*R^k*eps≤(m:Rat)*R^m*eps:=by
  refine Rat.mul_le_mul_of_nonneg_right ?_ e0
  have a:=Rat.mul_le_mul_of_nonneg_left (pow_mono_exp hR hk) (Rat.natCast_nonneg (a:=k))
  have b:=Rat.mul_le_mul_of_nonneg_right (natle hk) (show 0≤R^m by have:=pow_ge_one hR m;grind)
  grind
 refine ⟨S0+T'+1,fun T hT=>?_⟩
 obtain ⟨u1,u2⟩:=hS T (by omega)
 obtain ⟨l1,l2⟩:=hS S0 (Nat.le_refl _)
 obtain ⟨-,p2⟩:=pow_near hR (EE_nonneg x hx T) (hE T) hr hrR u1 u2 k
 obtain ⟨q1,-⟩:=pow_near hR (EE_nonneg x hx S0) (hE S0) hr hrR l1 l2 k
 have a:=EE_pow_le x hx T (by omega) k
 have b:=EE_le ((k:Rat)*x) (Rat.mul_nonneg Rat.natCast_nonneg hx) (show T'≤T by omega)
 constructor<;>grind
theorem near_all (x r R eps:Rat) (m:Nat) (hx:0≤x) (hr:0≤r) (hR:1≤R) (hrR:r≤R) (hE: ∀T,EE x T≤R) (S0:Nat) (hS: ∀T,S0≤T→ -eps≤EE x T-r∧EE x T-r≤eps):
 ∀n,n≤m+1→ ∃T0,∀k,k<n→ ∀T,T0≤T→ -((m:Rat)*R^m*eps)≤EE ((k:Rat)*x) T-r^k∧EE ((k:Rat)*x) T-r^k≤(m:Rat)*R^m*eps
 |0,_=>⟨0,fun k hk=>absurd hk (Nat.not_lt_zero k)⟩
 |n+1,hn=>by
  obtain ⟨A,hA⟩:=near_all x r R eps m hx hr hR hrR hE S0 hS n (by omega)
  obtain ⟨B,hB⟩:=near_pow x r R eps m hx hr hR hrR hE S0 hS n (by omega)
  refine ⟨A+B,fun k hk T hT=>?_⟩
  by_cases e:k=n
  ·subst e;exact hB T (by omega)
  ·exact hA k (by omega) T (by omega)
theorem gap_core (m I:Nat) (z0:Nat) (zt:List Nat) (hm: ∀z∈z0::zt,z≤m) (hI:(z0::zt).length≤I) (x r R A eps:Rat) (D:Nat)
 (hx:0≤x) (hr:0≤r) (hR:1≤R) (hrR:r≤R) (hE: ∀T,EE x T≤R) (hA: ∀k i,-A≤alp (z0::zt) k i∧alp (z0::zt) k i≤A)
 (S0:Nat) (hS: ∀T,S0≤T→ -eps≤EE x T-r∧EE x T-r≤eps)
 (hint: ∃z:Int,(D:Rat)*sumQ (fun k=>sumQ (fun i=>alp (z0::zt) k i*(ep x i*r^k)) I) (m+1)=(z:Rat)) (hD:0<D)
 (h1:((m+1:Nat):Rat)*((I:Rat)*(A*(R*((m:Rat)*R^m*eps))))<ep x zt.length)
 (h2:(D:Rat)*(ep x zt.length*R^m+((m+1:Nat):Rat)*((I:Rat)*(A*(R*((m:Rat)*R^m*eps)))))<1):False:=by
 obtain ⟨T0,hT0⟩:=near_all x r R eps m hx hr hR hrR hE S0 hS (m+1) (Nat.le_refl _)
 obtain ⟨S,hSS⟩: ∃S,S=T0+I+1:=⟨_,rfl⟩
 have idm:=id_main m I (z0::zt) hI hm x S
 have hep: ∀i,-R≤ep x i∧ep x i≤R:=fun i=>by
  have a:=ep_nonneg x hx i
  have b:=sumQ_term (f:=ep x) (ep_nonneg x hx) (show i<i+1 by omega)
  have c:=hE (i+1)
  unfold EE at c
  constructor<;>grind
 have near:=sumQ_near (f:=fun k=>sumQ (fun i=>alp (z0::zt) k i*(ep x i*EE ((k:Rat)*x) (S-i))) I) (g:=fun k=>sumQ (fun i=>alp (z0::zt) k i*(ep x i*r^k)) I) (c:=(I:Rat)*(A*(R*((m:Rat)*R^m*eps)))) (m+1) (fun k hk=>by
  refine sumQ_near (f:=fun i=>alp (z0::zt) k i*(ep x i*EE ((k:Rat)*x) (S-i))) (g:=fun i=>alp (z0::zt) k i*(ep x i*r^k)) I (fun i hi=>?_)
  obtain ⟨n1,n2⟩:=hT0 k hk (S-i) (by omega)
  obtain ⟨p1,p2⟩:=mul_bd2 (hep i).1 (hep i).2 n1 n2
  obtain ⟨q1,q2⟩:=mul_bd2 (hA k i).1 (hA k i).2 p1 p2
  have e:alp (z0::zt) k i*(ep x i*EE ((k:Rat)*x) (S-i))-alp (z0::zt) k i*(ep x i*r^k)=alp (z0::zt) k i*(ep x i*(EE ((k:Rat)*x) (S-i)-r^k)):=by grind
  rw [e]
  exact ⟨q1,q2⟩)
 rw [←idm] at near
 have tnn: ∀s,0≤grs (z0::zt) s*ep x s:=fun s=>Rat.mul_nonneg (grs_nonneg _ s) (ep_nonneg x hx s)
 have low:ep x zt.length≤sumQ (fun s=>grs (z0::zt) s*ep x s) S:=by
  have h:=sumQ_term (f:=fun s=>grs (z0::zt) s*ep x s) tnn (show zt.length<S by simp at hI;omega)
  rw [grs_one zt z0,Rat.one_mul] at h
  exact h
 have high:sumQ (fun s=>grs (z0::zt) s*ep x s) S≤ep x zt.length*R^m:=by
  have a:=sumQ_le (f:=fun s=>grs (z0::zt) s*ep x s) (g:=fun s=>bin (m:Rat) zt.length s*ep x s) S (fun s _=>Rat.mul_le_mul_of_nonneg_right (grs_le m zt z0 s hm) (ep_nonneg x hx s))
  rw [bin_sum] at a
  have b:=EE_pow_le x hx (S-zt.length) (by simp at hI;omega) m
  have c:=pow_mono_base (EE_nonneg x hx (S-zt.length)) (hE (S-zt.length)) m
  have d:=Rat.mul_le_mul_of_nonneg_left (show EE ((m:Rat)*x) (S-zt.length)≤R^m by grind) (ep_nonneg x hx zt.length)
  grind
 obtain ⟨z,hz⟩:=hint
 generalize sumQ (fun k=>sumQ (fun i=>alp (z0::zt) k i*(ep x i*r^k)) I) (m+1)=V at *
 generalize sumQ (fun s=>grs (z0::zt) s*ep x s) S=W at *
 generalize ((m+1:Nat):Rat)*((I:Rat)*(A*(R*((m:Rat)*R^m*eps))))=er at *
 have hDp:(0:Rat)<(D:Rat):=Rat.natCast_pos.2 hD
 have v0:0<V:=by grind
 have v1:V≤ep x zt.length*R^m+er:=by grind
 have w0:=Rat.mul_pos hDp v0
 have w1:=Rat.mul_le_mul_of_nonneg_left v1 (show (0:Rat)≤D by grind)
 rw [hz] at w0 w1
 have z0':0<z:=Rat.intCast_pos.1 w0
 have z1':z<1:=Rat.intCast_lt_intCast.1 (show (z:Rat)<((1:Int):Rat) by
  have:((1:Int):Rat)=1:=rfl
  rw [this];grind)
 omega
def IsZ (q:Rat):Prop:= ∃n:Int,q=(n:Rat)
theorem IsZ.int (n:Int):IsZ (n:Rat):=⟨n,rfl⟩
theorem IsZ.nat (n:Nat):IsZ (n:Rat):=⟨(n:Int),(Rat.intCast_natCast n).symm⟩
theorem IsZ.zero:IsZ 0:=⟨0,rfl⟩
theorem IsZ.add {p q:Rat} (h:IsZ p) (k:IsZ q):IsZ (p+q):=by
 obtain ⟨a,rfl⟩:=h;obtain ⟨b,rfl⟩:=k
 exact ⟨a+b,(Rat.intCast_add a b).symm⟩
theorem IsZ.mul {p q:Rat} (h:IsZ p) (k:IsZ q):IsZ (p*q):=by
 obtain ⟨a,rfl⟩:=h;obtain ⟨b,rfl⟩:=k
 exact ⟨a*b,(Rat.intCast_mul a b).symm⟩
theorem IsZ.neg {p:Rat} (h:IsZ p):IsZ (-p):=by
 obtain ⟨a,rfl⟩:=h
 exact ⟨-a,(Rat.intCast_neg a).symm⟩
theorem IsZ.sub {p q:Rat} (h:IsZ p) (k:IsZ q):IsZ (p-q):=by
 have:=h.add k.neg
 rwa [←Rat.sub_eq_add_neg] at this
theorem IsZ.sum {f:Nat→Rat}: ∀n,(∀i,i<n→IsZ (f i))→IsZ (sumQ f n)
 |0,_=>IsZ.zero
 |n+1,h=>(IsZ.sum n (fun i hi=>h i (by omega))).add (h n (by omega))
def dist (k z:Nat):Nat:=(k-z)+(z-k)
theorem dist_pos {k z:Nat} (h:z≠k):0<dist k z:=by unfold dist;omega
theorem dist_cast (k z:Nat):((dist k z:Nat):Rat)=(k:Rat)-(z:Rat)∨((dist k z:Nat):Rat)= -((k:Rat)-(z:Rat)):=by
 unfold dist
 rcases Nat.le_total z k with h|h
 ·left
  have e:(k:Rat)=((k-z+(z-k):Nat):Rat)+(z:Rat):=by rw [←Rat.natCast_add];congr 1;omega
  rw [e];grind
 ·right
  have e:(z:Rat)=((k-z+(z-k):Nat):Rat)+(k:Rat):=by rw [←Rat.natCast_add];congr 1;omega
  rw [e];grind
def prL (k:Nat):List Nat→Nat
 | []=>1
 |z::zs=>(if z=k then 1 else dist k z)*prL k zs
theorem cast_mul (a b:Nat):((a*b:Nat):Rat)=(a:Rat)*(b:Rat):=Rat.natCast_mul a b
theorem cast_pow (a n:Nat):((a^n:Nat):Rat)=(a:Rat)^n:=Rat.natCast_pow a n
theorem res_int (L k:Nat): ∀zs:List Nat,(∀z∈zs,z≠k→dist k z∣L)→ ∀j,IsZ ((prL k zs:Rat)*(L:Rat)^j*resS k zs j)
 | [],_,j=>by
   simp only [prL,resS]
   split
   ·rename_i h;subst h
    rw [Rat.pow_zero]
    have:((1:Nat):Rat)*1*1=((1:Nat):Rat):=by grind
    rw [this];exact IsZ.nat 1
   ·have:((1:Nat):Rat)*(L:Rat)^j*0=0:=by grind
    rw [this];exact IsZ.zero
 |z::zs,h,j=>by
  have ih:=res_int L k zs (fun y hy=>h y (List.mem_cons_of_mem _ hy))
  by_cases hz:z=k
  ·simp only [prL,resS,if_pos hz,Nat.one_mul];exact ih j
  ·simp only [prL,resS,if_neg hz]
   obtain ⟨q,hq⟩:=h z (List.mem_cons_self ..) hz
   have hc:(k:Rat)-(z:Rat)≠0:=natne (fun e=>hz e.symm)
   obtain ⟨c,hcc⟩: ∃c,c=(k:Rat)-(z:Rat):=⟨_,rfl⟩
   have hd:=dist_cast k z
   rw [←hcc] at hc hd ⊢
   rw [cast_mul]
   have hL:(L:Rat)=(dist k z:Rat)*(q:Rat):=by rw [←cast_mul,←hq]
   generalize (dist k z:Rat)=e at *
   generalize (prL k zs:Rat)=p at *
   induction j with
   |zero=>
    have a:=divS_zero hc (resS k zs)
    have b:=ih 0
    rw [Rat.pow_zero] at b ⊢
    rcases hd with h1|h1
    ·have:e*p*1*divS c (resS k zs) 0=p*1*resS k zs 0:=by rw [h1];grind
     rw [this];exact b
    ·have:e*p*1*divS c (resS k zs) 0= -(p*1*resS k zs 0):=by rw [h1];grind
     rw [this];exact b.neg
   |succ j ihj=>
    have a:=divS_succ hc (resS k zs) j
    have b:=ih (j+1)
    have d:=(IsZ.nat q).mul ihj
    have f:p*(L:Rat)^(j+1)*(resS k zs (j+1)-divS c (resS k zs) j)=p*(L:Rat)^(j+1)*resS k zs (j+1)-(q:Rat)*(e*p*(L:Rat)^j*divS c (resS k zs) j):=by
     rw [Rat.pow_succ]
     generalize (L:Rat)^j=w at *
     rw [hL];grind
    have g:=b.sub d
    rw [←f] at g
    rcases hd with h1|h1
    ·have:e*p*(L:Rat)^(j+1)*divS c (resS k zs) (j+1)=p*(L:Rat)^(j+1)*(resS k zs (j+1)-divS c (resS k zs) j):=by
      generalize (L:Rat)^(j+1)=w at *
      rw [h1];grind
     rw [this];exact g
    ·have:e*p*(L:Rat)^(j+1)*divS c (resS k zs) (j+1)= -(p*(L:Rat)^(j+1)*(resS k zs (j+1)-divS c (resS k zs) j)):=by
      generalize (L:Rat)^(j+1)=w at *
      rw [h1];grind
     rw [this];exact g.neg
theorem pow2_pos (n:Nat):(0:Rat)<2^n:=Rat.pow_pos (by grind)
theorem pow2_succ (n:Nat):(2:Rat)^(n+1)=2*2^n:=by rw [Rat.pow_succ];grind
theorem pow2_mono {a b:Nat} (h:a≤b):(2:Rat)^a≤2^b:=pow_mono_exp (by grind) h
theorem res_size (k:Nat): ∀(zs:List Nat) (j:Nat),-(2:Rat)^(zs.length+j)≤resS k zs j∧resS k zs j≤2^(zs.length+j)
 | [],j=>by
   have h:=pow2_pos (([]:List Nat).length+j)
   have h1:=pow2_mono (show 0≤([]:List Nat).length+j by omega)
   rw [Rat.pow_zero] at h1
   simp only [resS]
   split<;>constructor<;>grind
 |z::zs,j=>by
  have ih:=res_size k zs
  by_cases hz:z=k
  ·simp only [resS,if_pos hz]
   have a:=ih j
   have b:=pow2_mono (show zs.length+j≤(z::zs).length+j by simp)
   constructor<;>grind
  ·simp only [resS,if_neg hz]
   have hc:(k:Rat)-(z:Rat)≠0:=natne (fun e=>hz e.symm)
   have h1:(1:Rat)≤(dist k z:Rat):=natle (dist_pos hz)
   have hd:=dist_cast k z
   generalize (k:Rat)-(z:Rat)=c at *
   have key: ∀f g B:Rat,c*g=f→ -B≤f→f≤B→ -B≤g∧g≤B:=by
    intro f g B hg f1 f2
    have B0:0≤B:=by grind
    rcases hd with hd|hd
    ·have c1:1≤c:=by grind
     constructor
     ·refine Rat.not_lt.1 (fun hlt=>?_)
      have:=Rat.mul_le_mul_of_nonneg_right c1 (show 0≤ -g by grind)
      grind
     ·refine Rat.not_lt.1 (fun hlt=>?_)
      have:=Rat.mul_le_mul_of_nonneg_right c1 (show 0≤g by grind)
      grind
    ·have c1:1≤ -c:=by grind
     constructor
     ·refine Rat.not_lt.1 (fun hlt=>?_)
      have:=Rat.mul_le_mul_of_nonneg_right c1 (show 0≤ -g by grind)
      grind
     ·refine Rat.not_lt.1 (fun hlt=>?_)
      have:=Rat.mul_le_mul_of_nonneg_right c1 (show 0≤g by grind)
      grind
   induction j with
   |zero=>
    have a:=ih 0
    have e:=pow2_mono (show zs.length+0≤(z::zs).length+0 by simp)
    exact key _ _ _ (divS_zero hc _) (by grind) (by grind)
   |succ j ihj=>
    have a:=ih (j+1)
    have e:(z::zs).length+(j+1)=(zs.length+j+1)+1:=by simp;omega
    have e2:(z::zs).length+j=zs.length+j+1:=by simp;omega
    rw [e2] at ihj
    rw [show zs.length+(j+1)=zs.length+j+1 by omega] at a
    rw [e,pow2_succ]
    have b:=divS_succ hc (resS k zs) j
    exact key (resS k zs (j+1)-divS c (resS k zs) j) _ _ (by grind) (by grind) (by grind)
def nodes (N:Nat):Nat→List Nat
 |0=> []
 |n+1=>List.replicate N n++nodes N n
theorem nodes_len (N:Nat): ∀n,(nodes N n).length=n*N
 |0=>by simp [nodes]
 |n+1=>by rw [nodes,List.length_append,List.length_replicate,nodes_len N n,Nat.succ_mul];omega
theorem nodes_lt (N:Nat): ∀n,∀z∈nodes N n,z<n
 |0,z,h=>by simp [nodes] at h
 |n+1,z,h=>by
  rw [nodes] at h
  rcases List.mem_append.1 h with h|h
  ·rw [(List.mem_replicate.1 h).2];omega
  ·have:=nodes_lt N n z h;omega
theorem nodes_count (N k:Nat): ∀n,(nodes N n).count k=if k<n then N else 0
 |0=>by simp [nodes]
 |n+1=>by
  rw [nodes,List.count_append,nodes_count N k n,List.count_replicate]
  by_cases h:k=n
  ·subst h;rw [if_pos (by simp),if_neg (by omega),if_pos (by omega)];omega
  ·by_cases h2:k<n
   ·rw [if_neg (by simpa using fun e=>h e.symm),if_pos h2,if_pos (by omega)];omega
   ·rw [if_neg (by simpa using fun e=>h e.symm),if_neg h2,if_neg (by omega)]
def prT (k:Nat):Nat→Nat
 |0=>1
 |z+1=>(bif Nat.beq z k then 1 else dist k z)*prT k z
theorem prL_app (k:Nat): ∀a b:List Nat,prL k (a++b)=prL k a*prL k b
 | [],b=>by simp [prL]
 |z::a,b=>by rw [List.cons_append,prL,prL_app k a b,prL,Nat.mul_assoc]
theorem prL_rep (k z:Nat): ∀N,prL k (List.replicate N z)=(if z=k then 1 else dist k z)^N
 |0=>by simp [prL]
 |N+1=>by rw [List.replicate_succ,prL,prL_rep k z N,Nat.pow_succ,Nat.mul_comm]
theorem prL_nodes (N k:Nat): ∀n,prL k (nodes N n)=prT k n^N
 |0=>by simp [prL,nodes,prT]
 |n+1=>by
  rw [nodes,prL_app,prL_rep,prL_nodes N k n,prT,Nat.mul_pow]
  congr 2
  by_cases h:n=k
  ·rw [if_pos h,show Nat.beq n k=true by rw [Nat.beq_eq];exact h];rfl
  ·rw [if_neg h,show Nat.beq n k=false by rw [Bool.eq_false_iff,ne_eq,Nat.beq_eq];exact h];rfl
def fac:Nat→Nat
 |0=>1
 |n+1=>(n+1)*fac n
theorem fac_pos: ∀n,0<fac n
 |0=>by decide
 |n+1=>Nat.mul_pos (by omega) (fac_pos n)
theorem fac_dvd {i n:Nat} (h:i≤n):fac i∣fac n:=by
 induction n with
 |zero=>rw [show i=0 by omega];exact Nat.dvd_refl _
 |succ n ih=>
  by_cases e:i=n+1
  ·rw [e];exact Nat.dvd_refl _
  ·exact Nat.dvd_trans (ih (by omega)) (Nat.dvd_mul_left _ _)
theorem ep_frac (a b:Nat) (hb:0<b) (x:Rat) (hx:(b:Rat)*x=(a:Rat)): ∀i,((fac i*b^i:Nat):Rat)*ep x i=((a^i:Nat):Rat)
 |0=>by simp only [fac,ep,Nat.pow_zero];grind
 |i+1=>by
  have ih:=ep_frac a b hb x hx i
  have p:=ep_succ x i
  rw [fac,Nat.pow_succ,Nat.pow_succ]
  have e:(((i+1)*fac i*(b^i*b):Nat):Rat)=((i+1:Nat):Rat)*((fac i*b^i:Nat):Rat)*(b:Rat):=by
   rw [←cast_mul,←cast_mul];congr 1;simp only [Nat.mul_assoc]
  rw [e,cast_mul (a^i) a,←ih,←hx]
  grind
theorem comb_int (m N L F a b c d:Nat) (hb:0<b) (x r:Rat) (hx:(b:Rat)*x=(a:Rat)) (hr:(d:Rat)*r=(c:Rat))
 (hL: ∀i,1≤i→i≤m→i∣L) (hF: ∀k,k≤m→prT k (m+1)∣F) (I:Nat):
 IsZ (((F^N*L^N*(fac N*b^N)*d^m:Nat):Rat)*sumQ (fun k=>sumQ (fun i=>alp (nodes N (m+1)) k i*(ep x i*r^k)) I) (m+1)):=by
 rw [←sumQ_mul]
 refine IsZ.sum _ (fun k hk=>?_)
 rw [←sumQ_mul]
 refine IsZ.sum _ (fun i _=>?_)
 unfold alp
 rw [nodes_count,if_pos hk]
 by_cases hi:i<N
 ·rw [if_pos hi]
  have h1:=res_int L k (nodes N (m+1)) (fun z hz hne=>hL _ (dist_pos hne) (by have:=nodes_lt N (m+1) z hz;unfold dist;omega)) (N-1-i)
  rw [prL_nodes] at h1
  obtain ⟨f,hf⟩:=hF k (by omega)
  obtain ⟨g,hg⟩:=fac_dvd (show i≤N by omega)
  have h2:=ep_frac a b hb x hx i
  have h3: ∀k,(d:Rat)^k*r^k=((c^k:Nat):Rat):=by
   intro k
   induction k with
   |zero=>rw [Rat.pow_zero,Rat.pow_zero,Nat.pow_zero];grind
   |succ k ih=>rw [Rat.pow_succ,Rat.pow_succ,Nat.pow_succ,cast_mul,←ih,←hr];grind
  have e1:((F^N:Nat):Rat)=((prT k (m+1)^N:Nat):Rat)*((f^N:Nat):Rat):=by rw [←cast_mul,←Nat.mul_pow,←hf]
  have e2:((L^N:Nat):Rat)=(L:Rat)^(N-1-i)*((L^(1+i):Nat):Rat):=by
   rw [←cast_pow,←cast_mul,←Nat.pow_add];congr 2;omega
  have e3:((fac N*b^N:Nat):Rat)=((fac i*b^i:Nat):Rat)*((g*b^(N-i):Nat):Rat):=by
   rw [←cast_mul];congr 1
   rw [hg,show fac i*b^i*(g*b^(N-i))=fac i*g*(b^i*b^(N-i)) by simp only [Nat.mul_assoc,Nat.mul_left_comm,Nat.mul_comm],←Nat.pow_add]
   congr 2;omega
  have e4:((d^m:Nat):Rat)=(d:Rat)^k*((d^(m-k):Nat):Rat):=by
   rw [←cast_pow,←cast_mul,←Nat.pow_add];congr 2;omega
  rw [cast_mul _ (d^m),cast_mul _ (fac N*b^N),cast_mul (F^N),e1,e2,e3,e4]
  have key:((prT k (m+1)^N:Nat):Rat)*((f^N:Nat):Rat)*((L:Rat)^(N-1-i)*((L^(1+i):Nat):Rat))*(((fac i*b^i:Nat):Rat)*((g*b^(N-i):Nat):Rat))*((d:Rat)^k*((d^(m-k):Nat):Rat))*(resS k (nodes N (m+1)) (N-1-i)*(ep x i*r^k))=
   (((prT k (m+1)^N:Nat):Rat)*(L:Rat)^(N-1-i)*resS k (nodes N (m+1)) (N-1-i))*((f^N:Nat):Rat)*((L^(1+i):Nat):Rat)*((((fac i*b^i:Nat):Rat)*ep x i)*((g*b^(N-i):Nat):Rat))*(((d:Rat)^k*r^k)*((d^(m-k):Nat):Rat)):=by
   generalize ((prT k (m+1)^N:Nat):Rat)=t1
   generalize ((f^N:Nat):Rat)=t2
   generalize (L:Rat)^(N-1-i)=t3
   generalize ((L^(1+i):Nat):Rat)=t4
   generalize ((fac i*b^i:Nat):Rat)=t5
   generalize ((g*b^(N-i):Nat):Rat)=t6
   generalize (d:Rat)^k=t7
   generalize ((d^(m-k):Nat):Rat)=t8
   generalize resS k (nodes N (m+1)) (N-1-i)=t9
   generalize ep x i=t10
   generalize r^k=t11
   grind
  rw [key,h2,h3]
  exact (((h1.mul (IsZ.nat _)).mul (IsZ.nat _)).mul ((IsZ.nat _).mul (IsZ.nat _))).mul ((IsZ.nat _).mul (IsZ.nat _))
 ·rw [if_neg hi,Rat.zero_mul,Rat.mul_zero]
  exact IsZ.zero
theorem alp_size (N n k i:Nat): -(2:Rat)^(n*N+N)≤alp (nodes N n) k i∧alp (nodes N n) k i≤2^(n*N+N):=by
 have h0:=pow2_pos (n*N+N)
 unfold alp
 rw [nodes_count]
 by_cases h:k<n
 ·rw [if_pos h]
  by_cases hi:i<N
  ·rw [if_pos hi]
   have a:=res_size k (nodes N n) (N-1-i)
   rw [nodes_len] at a
   have b:=pow2_mono (show n*N+(N-1-i)≤n*N+N by omega)
   constructor<;>grind
  ·rw [if_neg hi];constructor<;>grind
 ·rw [if_neg h,if_neg (by omega)];constructor<;>grind
theorem ep_one (s:Nat):2*ep 1 (s+2)≤ep 1 (s+1):=by
 have h:=ep_succ 1 (s+1)
 have k:=ep_nonneg 1 (by grind) (s+2)
 have e:((s+1+1:Nat):Rat)=(s:Rat)+2:=by rw [cast_succ,cast_succ];grind
 rw [e] at h
 have p:=Rat.mul_nonneg (Rat.natCast_nonneg (a:=s)) k
 grind
theorem EE_one: ∀T,EE 1 (T+2)≤3-ep 1 (T+1)
 |0=>by
  have e1:ep 1 1=1:=by
   have h:=ep_succ 1 0
   have:((0+1:Nat):Rat)=1:=rfl
   rw [this] at h
   have e0:ep 1 0=1:=rfl
   grind
  unfold EE
  simp only [sumQ]
  rw [e1]
  have e0:ep 1 0=1:=rfl
  grind
 |T+1=>by
  have h:=EE_one T
  have k:=ep_one T
  unfold EE at h ⊢
  rw [show T+1+2=T+2+1 by omega,sumQ_succ]
  grind
theorem EE_one_le (T:Nat):EE 1 T≤3:=by
 have a:=EE_le 1 (by grind) (show T≤T+2 by omega)
 have b:=EE_one T
 have c:=ep_nonneg 1 (by grind) (T+1)
 grind
theorem ep_mono {x y:Rat} (hx:0≤x) (h:x≤y): ∀s,ep x s≤ep y s
 |0=>by simp only [ep];grind
 |s+1=>by
  have ih:=ep_mono hx h s
  have a:=ep_succ x s
  have b:=ep_succ y s
  have c:=Rat.mul_le_mul_of_nonneg_right h (ep_nonneg x hx s)
  have d:=Rat.mul_le_mul_of_nonneg_left ih (show 0≤y by grind)
  exact Rat.le_of_mul_le_mul_left (show ((s+1:Nat):Rat)*ep x (s+1)≤((s+1:Nat):Rat)*ep y (s+1) by grind) (nat_pos s)
theorem EE_nat (n T:Nat):EE (n:Rat) T≤((4^n:Nat):Rat):=by
 have h0:(0:Rat)≤1:=by grind
 have a:=EE_le (n:Rat) Rat.natCast_nonneg (show T≤T+1 by omega)
 have b:=EE_pow_le 1 h0 (T+1) (by omega) n
 rw [show (n:Rat)*1=(n:Rat) by grind] at b
 have c:=pow_mono_base (EE_nonneg 1 h0 (T+1)) (show EE 1 (T+1)≤4 by have:=EE_one_le (T+1);grind) n
 rw [cast_pow]
 have:((4:Nat):Rat)=4:=rfl
 rw [this]
 grind
theorem EE_bound {x:Rat} (hx:0≤x) (n:Nat) (h:x≤(n:Rat)) (T:Nat):EE x T≤((4^n:Nat):Rat):=by
 have a:=sumQ_le (f:=ep x) (g:=ep (n:Rat)) T (fun i _=>ep_mono hx h i)
 have b:=EE_nat n T
 unfold EE at b ⊢
 grind
theorem fac_ge (n:Nat):n^n≤4^n*fac n:=by
 have a:=ep_frac n 1 (by omega) (n:Rat) (by have:((1:Nat):Rat)=1:=rfl
                                            grind) n
 have b:=sumQ_term (f:=ep (n:Rat)) (ep_nonneg _ Rat.natCast_nonneg) (show n<n+1 by omega)
 have c:=EE_nat n (n+1)
 unfold EE at c
 have d:=Rat.mul_le_mul_of_nonneg_left (show ep (n:Rat) n≤((4^n:Nat):Rat) by grind) (Rat.natCast_nonneg (a:=fac n*1^n))
 rw [a,←cast_mul,Nat.one_pow,Nat.mul_one] at d
 have:=Rat.natCast_le_natCast.1 d
 rw [Nat.mul_comm];exact this
theorem fac_le (n:Nat):fac n≤n^n:=by
 have: ∀k,k≤n→fac k≤n^k:=by
  intro k
  induction k with
  |zero=>intro _;simp [fac]
  |succ k ih=>
   intro h
   rw [fac,Nat.pow_succ,Nat.mul_comm]
   exact Nat.mul_le_mul (ih (by omega)) h
 exact this n (Nat.le_refl _)
def lcmT:Nat→Nat
 |0=>1
 |n+1=>Nat.lcm (lcmT n) (n+1)
theorem lcmT_dvd: ∀(n i:Nat),1≤i→i≤n→i∣lcmT n
 |0,i,h1,h2=>by omega
 |n+1,i,h1,h2=>by
  by_cases e:i=n+1
  ·rw [e];exact Nat.dvd_lcm_right _ _
  ·exact Nat.dvd_trans (lcmT_dvd n i h1 (by omega)) (Nat.dvd_lcm_left _ _)
def chkF (F m:Nat):Nat→Bool
 |0=>true
 |k+1=>Nat.beq (F%prT k (m+1)) 0&&chkF F m k
theorem chkF_spec (F m:Nat): ∀n,chkF F m n=true→ ∀k,k<n→prT k (m+1)∣F
 |0,_,k,h=>by omega
 |n+1,h,k,hk=>by
  rw [chkF,Bool.and_eq_true,Nat.beq_eq] at h
  by_cases e:k=n
  ·rw [e];exact Nat.dvd_of_mod_eq_zero h.1
  ·exact chkF_spec F m n h.2 k (by omega)
theorem lcm512:lcmT 512<2^750:=by decide+kernel
theorem fac512:fac 512<2^3876:=by decide+kernel
theorem chk512:chkF (fac 512) 512 513=true:=by decide+kernel
theorem two_mul_pow {a b e f:Nat} (h:a≤2^e) (k:b≤2^f):a*b≤2^(e+f):=by
 rw [Nat.pow_add];exact Nat.mul_le_mul h k
theorem pow_le2 {a e:Nat} (n:Nat) (h:a≤2^e):a^n≤2^(e*n):=by
 rw [Nat.pow_mul];exact Nat.pow_le_pow_left h n
theorem gap_nat (a b d F L N H m ρ ν h κ:Nat) (hN:N≤2^ν) (hH:2^(h+2)≤H) (hb:0<b) (hF:F≤2^3876) (hL:L≤2^750) (hd:d≤2^6000)
 (hxb:a^H*b^N≤2^(κ*H+1300*N)*b^H) (hx:3876*N+750*N+ν*N+6000*m+(1+ρ*m)+(κ*H+1300*N)<h*H):F^N*L^N*(fac N*b^N)*d^m*2^(1+ρ*m)*a^H<fac H*b^H:=by
 have h1:=pow_le2 N hF
 have h2:=pow_le2 N hL
 have h3:=pow_le2 m hd
 have h4:fac N≤2^(ν*N):=Nat.le_trans (fac_le N) (pow_le2 N hN)
 have h5:2^(h*H)≤fac H:=by
  have k:=fac_ge H
  have k2:2^((h+2)*H)≤H^H:=by rw [Nat.pow_mul];exact Nat.pow_le_pow_left hH H
  have k3:4^H=2^(2*H):=by rw [Nat.pow_mul]
  rw [k3] at k
  have k4:2^(2*H)*2^(h*H)≤2^(2*H)*fac H:=by
   rw [←Nat.pow_add,show 2*H+h*H=(h+2)*H by rw [Nat.add_mul];omega];exact Nat.le_trans k2 k
  exact Nat.le_of_mul_le_mul_left k4 (Nat.two_pow_pos _)
 have h6:=two_mul_pow (two_mul_pow (two_mul_pow (two_mul_pow h1 h2) h4) h3) (Nat.le_refl (2^(1+ρ*m)))
 have e:F^N*L^N*(fac N*b^N)*d^m*2^(1+ρ*m)*a^H=F^N*L^N*fac N*d^m*2^(1+ρ*m)*(a^H*b^N):=by
  simp only [Nat.mul_assoc,Nat.mul_left_comm,Nat.mul_comm]
 rw [e]
 have h7:=Nat.mul_le_mul h6 hxb
 refine Nat.lt_of_le_of_lt h7 ?_
 rw [←Nat.mul_assoc,←Nat.pow_add]
 refine Nat.mul_lt_mul_of_lt_of_le ?_ (Nat.le_refl _) (Nat.pow_pos hb)
 exact Nat.lt_of_lt_of_le (Nat.pow_lt_pow_right (by omega) hx) h5
theorem two_cast (n:Nat):((2^n:Nat):Rat)=2^n:=by rw [cast_pow];rfl
theorem two_inv (G:Nat):(2:Rat)^G*(1/2^G)=1:=by
 have:=pow2_pos G
 grind
def GG:Nat:=8589934592
theorem gap_at (a b c d:Nat) (N H m ρ G u F L D:Nat) (hD:D=F^N*L^N*(fac N*b^N)*d^m) (hb:0<b) (x r:Rat) (hx:(b:Rat)*x=(a:Rat)) (hx0:0≤x) (hx1:b≤a*2^u)
 (hd0:0<d) (hL0:0<L) (hF0:0<F) (hρ1:1≤ρ) (hE: ∀T,EE x T≤(2:Rat)^(ρ-1)) (hM:(m+1)*N=H+1) (hm10:m+1≤2^10) (hH27:H+1≤2^27) (hm9:m≤2^9)
 (hxs:46+ρ+ρ*m+(H+1+N)+(27+u)*H<G) (hnat:D*2^(1+ρ*m)*a^H<fac H*b^H)
 (hint:IsZ ((D:Rat)*sumQ (fun k=>sumQ (fun i=>alp (nodes N (m+1)) k i*(ep x i*r^k)) (H+1)) (m+1)))
 (S0:Nat) (hS: ∀T,S0≤T→ -1≤(2:Rat)^G*(EE x T-r)∧(2:Rat)^G*(EE x T-r)≤1):False:=by
 have g2:=pow2_pos G
 obtain ⟨eps,heps⟩: ∃eps:Rat,eps=1/2^G:=⟨_,rfl⟩
 have he:(2:Rat)^G*eps=1:=by rw [heps];exact two_inv G
 have he0:0<eps:=Rat.not_le.1 (fun h=>by
  have:=Rat.mul_le_mul_of_nonneg_left h (show (0:Rat)≤2^G by grind)
  grind)
 have he1:eps≤1:=by
  have h:=pow2_mono (show 0≤G by omega)
  rw [Rat.pow_zero] at h
  have:=Rat.mul_le_mul_of_nonneg_right h (show 0≤eps by grind)
  grind
 have hS2: ∀T,S0≤T→ -eps≤EE x T-r∧EE x T-r≤eps:=fun T hT=>by
  obtain ⟨p,q⟩:=hS T hT
  constructor
  ·apply Rat.le_of_mul_le_mul_left _ g2
   grind
  ·apply Rat.le_of_mul_le_mul_left _ g2
   grind
 clear hS heps
 have hρ2:(2:Rat)^ρ=2*2^(ρ-1):=by
  conv=>lhs;rw [show ρ=ρ-1+1 by omega]
  exact pow2_succ _
 have hR1:=pow2_mono (show 0≤ρ-1 by omega)
 rw [Rat.pow_zero] at hR1
 have hr0:0≤r:=by
  have p:=(hS2 (S0+1) (by omega)).2
  have q:=EE_le x hx0 (show 1≤S0+1 by omega)
  have e1:EE x 1=1:=by unfold EE;simp only [sumQ,ep];grind
  grind
 have hrR:r≤(2:Rat)^ρ:=by
  have p:=(hS2 S0 (Nat.le_refl _)).1
  have q:=hE S0
  grind
 obtain ⟨z0,zt,hzs⟩: ∃z0 zt,nodes N (m+1)=z0::zt:=by
  cases h:nodes N (m+1) with
  |nil=>have:=nodes_len N (m+1);rw [h,hM] at this;simp at this
  |cons z zt=>exact ⟨z,zt,rfl⟩
 have hlen:=nodes_len N (m+1)
 have hlt:=nodes_lt N (m+1)
 rw [hzs,List.length_cons,hM] at hlen
 have hHl:zt.length=H:=by omega
 rw [hzs] at hint
 have hsz:=fun k i=>alp_size N (m+1) k i
 rw [hzs,hM] at hsz
 have hDp:0<D:=by
  rw [hD]
  exact Nat.mul_pos (Nat.mul_pos (Nat.mul_pos (Nat.pow_pos hF0) (Nat.pow_pos hL0)) (Nat.mul_pos (fac_pos _) (Nat.pow_pos hb))) (Nat.pow_pos hd0)
 clear hD
 have hep:=ep_frac a b hb x hx H
 have hbH:0<b^H:=Nat.pow_pos hb
 have hlowN:b^H≤a^H*2^(u*H):=by
  rw [Nat.pow_mul,←Nat.mul_pow];exact Nat.pow_le_pow_left hx1 H
 have hfH:fac H≤2^(27*H):=Nat.le_trans (fac_le H) (pow_le2 H (by omega))
 have hep0:=ep_nonneg x hx0 H
 have hlow:1≤(2:Rat)^((27+u)*H)*ep x H:=by
  have k1:((b^H:Nat):Rat)≤((a^H:Nat):Rat)*2^(u*H):=by
   rw [←two_cast,←cast_mul];exact natle hlowN
  rw [←hep,cast_mul] at k1
  have k2:(fac H:Rat)≤2^(27*H):=by rw [←two_cast];exact natle hfH
  have hbr:(0:Rat)<((b^H:Nat):Rat):=Rat.natCast_pos.2 hbH
  have p1:=pow2_pos (u*H)
  have e:(2:Rat)^((27+u)*H)=2^(27*H)*2^(u*H):=by
   rw [←two_cast,←two_cast,←two_cast,←cast_mul,←Nat.pow_add];congr 2;rw [←Nat.add_mul]
  rw [e]
  apply Rat.le_of_mul_le_mul_left _ hbr
  have k3:=Rat.mul_le_mul_of_nonneg_right k2 (Rat.mul_nonneg (Rat.mul_nonneg (show (0:Rat)≤((b^H:Nat):Rat) by grind) hep0) (show (0:Rat)≤2^(u*H) by grind))
  grind
 obtain ⟨er,her⟩: ∃er:Rat,er=((m+1:Nat):Rat)*(((H+1:Nat):Rat)*((2:Rat)^(H+1+N)*((2:Rat)^ρ*((m:Rat)*((2:Rat)^ρ)^m*eps)))):=⟨_,rfl⟩
 have e1:((2:Rat)^ρ)^m=2^(ρ*m):=by
  rw [←two_cast,←two_cast,←cast_pow,←Nat.pow_mul]
 have her2:(2:Rat)^G*er≤2^(46+ρ+ρ*m+(H+1+N)):=by
  have b1:((m+1:Nat):Rat)≤2^10:=by rw [←two_cast];exact natle hm10
  have b2:((H+1:Nat):Rat)≤2^27:=by rw [←two_cast];exact natle hH27
  have b3:(m:Rat)≤2^9:=by rw [←two_cast];exact natle hm9
  have e2:(2:Rat)^G*er=((m+1:Nat):Rat)*((H+1:Nat):Rat)*(m:Rat)*((2:Rat)^(H+1+N)*2^ρ*2^(ρ*m)):=by
   rw [her,e1];grind
  have e3:(2:Rat)^(46+ρ+ρ*m+(H+1+N))=(2:Rat)^10*2^27*2^9*(2^(H+1+N)*2^ρ*2^(ρ*m)):=by
   simp only [←two_cast,←cast_mul,←Nat.pow_add];congr 2;omega
  rw [e2,e3]
  have q0:=pow2_pos 10
  have q1:=pow2_pos 27
  have c1:=Rat.mul_le_mul_of_nonneg_right b1 (Rat.natCast_nonneg (a:=H+1))
  have c2:=Rat.mul_le_mul_of_nonneg_left b2 (show (0:Rat)≤2^10 by grind)
  have c3:=Rat.mul_le_mul_of_nonneg_right (show ((m+1:Nat):Rat)*((H+1:Nat):Rat)≤2^10*2^27 by grind) (Rat.natCast_nonneg (a:=m))
  have c4:=Rat.mul_le_mul_of_nonneg_left b3 (show (0:Rat)≤2^10*2^27 from Rat.mul_nonneg (by grind) (by grind))
  refine Rat.mul_le_mul_of_nonneg_right (by grind) ?_
  exact Rat.mul_nonneg (Rat.mul_nonneg (by have:=pow2_pos (H+1+N);grind) (by have:=pow2_pos ρ;grind)) (by have:=pow2_pos (ρ*m);grind)
 have h1:er<ep x H:=Rat.not_le.1 (fun hle=>by
  obtain ⟨E1,hE1⟩: ∃E,E=46+ρ+ρ*m+(H+1+N):=⟨_,rfl⟩
  rw [←hE1] at her2 hxs
  have k1:=Rat.mul_le_mul_of_nonneg_left hle (show (0:Rat)≤2^G by grind)
  have e4:(2:Rat)^G=2^(G-(27+u)*H)*2^((27+u)*H):=by
   rw [←two_cast,←two_cast,←two_cast,←cast_mul,←Nat.pow_add];congr 2;omega
  have k2:=Rat.mul_le_mul_of_nonneg_left hlow (show (0:Rat)≤2^(G-(27+u)*H) by have:=pow2_pos (G-(27+u)*H);grind)
  have k3:(2:Rat)^(E1+1)≤2^(G-(27+u)*H):=pow2_mono (by omega)
  rw [pow2_succ] at k3
  have k4:=pow2_pos E1
  rw [e4] at k1 her2
  grind)
 have h2:(D:Rat)*(ep x H*((2:Rat)^ρ)^m+er)<1:=by
  have hDr:(0:Rat)≤(D:Rat):=Rat.natCast_nonneg
  have hge:1≤((2:Rat)^ρ)^m:=by
   rw [e1]
   have:=pow2_mono (show 0≤ρ*m by omega)
   rwa [Rat.pow_zero] at this
  have k0:=Rat.mul_le_mul_of_nonneg_left hge hep0
  have k1:=Rat.mul_le_mul_of_nonneg_left (show ep x H*((2:Rat)^ρ)^m+er≤2*(ep x H*((2:Rat)^ρ)^m) by grind) hDr
  have hfb:(0:Rat)<((fac H*b^H:Nat):Rat):=Rat.natCast_pos.2 (Nat.mul_pos (fac_pos _) hbH)
  have k2:((D*2^(1+ρ*m)*a^H:Nat):Rat)<((fac H*b^H:Nat):Rat):=Rat.natCast_lt_natCast.2 hnat
  rw [cast_mul,cast_mul,←hep,two_cast,Nat.add_comm 1,pow2_succ,←e1] at k2
  have k3:(D:Rat)*(2*(ep x H*((2:Rat)^ρ)^m))<1:=by
   apply Rat.lt_of_mul_lt_mul_left _ (show (0:Rat)≤((fac H*b^H:Nat):Rat) by grind)
   generalize ((fac H*b^H:Nat):Rat)=w at *
   generalize ((2:Rat)^ρ)^m=v at *
   grind
  grind
 refine gap_core m (H+1) z0 zt (fun z hz=>by
  have:=hlt z (by rw [hzs];exact hz);omega) (by simp;omega) x r ((2:Rat)^ρ) ((2:Rat)^(H+1+N)) eps D hx0 hr0 (by grind) hrR (fun T=>by have:=hE T;grind) hsz S0 hS2 hint hDp ?_ ?_
 ·rw [hHl,←her];exact h1
 ·rw [hHl,←her];exact h2
theorem four_pow (q:Nat):(4:Nat)^q=2^(2*q):=by rw [Nat.pow_mul]
theorem gap_with (a b c d:Nat) (hb:0<b) (x r:Rat) (hx:(b:Rat)*x=(a:Rat)) (hx0:0≤x) (q:Nat) (hx4:x≤(q:Rat)) (hr:(d:Rat)*r=(c:Rat)) (u:Nat) (hx1:b≤a*2^u) (N H m ρ ν h κ:Nat) (hm:m=512) (hM:(m+1)*N=H+1) (hρ:ρ-1=2*q) (hρ1:1≤ρ)
 (hN:N≤2^ν) (hH:2^(h+2)≤H) (hH27:H+1≤2^27) (hxs:46+ρ+ρ*m+(H+1+N)+(27+u)*H<GG) (hxx:3876*N+750*N+ν*N+6000*m+(1+ρ*m)+(κ*H+1300*N)<h*H)
 (hxb:a^H*b^N≤2^(κ*H+1300*N)*b^H) (hd0:0<d) (hd:d≤2^6000)
 (S0:Nat) (hS: ∀T,S0≤T→ -1≤(2:Rat)^GG*(EE x T-r)∧(2:Rat)^GG*(EE x T-r)≤1):False:=by
 refine gap_at a b c d N H m ρ GG u (fac 512) (lcmT 512) _ rfl hb x r hx hx0 hx1 hd0 (by decide+kernel) (fac_pos _) hρ1 ?_ hM (by rw [hm];decide) hH27 (by rw [hm];decide) hxs ?_ ?_ S0 hS
 ·intro T
  have h:=EE_bound hx0 q hx4 T
  rw [four_pow,two_cast] at h
  rw [hρ]
  exact h
 ·exact gap_nat a b d (fac 512) (lcmT 512) N H m ρ ν h κ hN hH hb (Nat.le_of_lt fac512) (Nat.le_of_lt lcm512) hd hxb hxx
 ·exact comb_int m N (lcmT 512) (fac 512) a b c d hb x r hx hr (fun i h1 h2=>lcmT_dvd 512 i h1 (by rw [hm] at h2;exact h2)) (fun k hk=>by
   rw [hm];exact chkF_spec (fac 512) 512 513 chk512 k (by rw [hm] at hk;exact Nat.lt_succ_of_le hk)) (H+1)
theorem gap (a b c d:Nat) (hb:0<b) (x r:Rat) (hx:(b:Rat)*x=(a:Rat)) (hr:(d:Rat)*r=(c:Rat)) (u:Nat) (hu:u=1303) (hx1:b≤a*2^u) (hx2:a≤2^12*b)
 (hxb: ∀κ H N:Nat,1000*N≤2*H→a≤2^κ*b→a^H*b^N≤2^(κ*H+1300*N)*b^H) (hd0:0<d) (hd:d≤2^6000)
 (S0:Nat) (hS: ∀T,S0≤T→ -1≤(2:Rat)^GG*(EE x T-r)∧(2:Rat)^GG*(EE x T-r)≤1):False:=by
 have hbp:(0:Rat)<(b:Rat):=Rat.natCast_pos.2 hb
 have hx0:0≤x:=Rat.not_lt.1 (fun h=>by
  have:=Rat.mul_lt_mul_of_pos_left h hbp
  have q:=Rat.natCast_nonneg (a:=a)
  clear hS hxb hd hx1
  grind)
 obtain ⟨q,hq⟩: ∃q,q=4096:=⟨_,rfl⟩
 have hx4:x≤(q:Rat):=by
  apply Rat.le_of_mul_le_mul_left _ hbp
  rw [hx,Rat.mul_comm,←cast_mul]
  refine natle (Nat.le_trans hx2 (Nat.mul_le_mul_right _ ?_))
  rw [hq];decide
 obtain ⟨m,hm⟩: ∃m,m=512:=⟨_,rfl⟩
 obtain ⟨ρ,hρ⟩: ∃ρ,ρ=8193:=⟨_,rfl⟩
 by_cases hab:b≤a
 ·obtain ⟨N,hN⟩: ∃N,N=131072:=⟨_,rfl⟩
  obtain ⟨H,hH⟩: ∃H,H=67239935:=⟨_,rfl⟩
  exact gap_with a b c d hb x r hx hx0 q hx4 hr 0 (by rw [Nat.pow_zero,Nat.mul_one];exact hab) N H m ρ 17 24 12 hm (by rw [hm,hN,hH]) (by rw [hρ,hq]) (by rw [hρ];decide) (by rw [hN];decide) (by rw [hH];decide) (by rw [hH];decide)
   (by unfold GG;rw [hρ,hm,hH,hN];decide) (by rw [hρ,hm,hH,hN];decide) (hxb 12 H N (by rw [hH,hN];decide) hx2) hd0 hd S0 hS
 ·obtain ⟨N,hN⟩: ∃N,N=8192:=⟨_,rfl⟩
  obtain ⟨H,hH⟩: ∃H,H=4202495:=⟨_,rfl⟩
  exact gap_with a b c d hb x r hx hx0 q hx4 hr u hx1 N H m ρ 13 20 0 hm (by rw [hm,hN,hH]) (by rw [hρ,hq]) (by rw [hρ];decide) (by rw [hN];decide) (by rw [hH];decide) (by rw [hH];decide)
   (by unfold GG;rw [hρ,hm,hH,hN,hu];decide) (by rw [hρ,hm,hH,hN];decide) (hxb 0 H N (by rw [hH,hN];decide) (by rw [Nat.pow_zero,Nat.one_mul];exact Nat.le_of_lt (Nat.lt_of_not_le hab))) hd0 hd S0 hS
def cdiv (a b:Nat):Nat:=if a%b=0 then a/b else a/b+1
theorem cdiv_ge (a b:Nat) (hb:0<b):a≤cdiv a b*b:=by
 have h:=Nat.div_add_mod a b
 have k:=Nat.mod_lt a hb
 rw [Nat.mul_comm] at h
 unfold cdiv;split
 ·omega
 ·rw [Nat.add_mul];omega
theorem cdiv_lt (a b:Nat) (hb:0<b):cdiv a b*b<a+b:=by
 have h:=Nat.div_add_mod a b
 have k:=Nat.mod_lt a hb
 rw [Nat.mul_comm] at h
 unfold cdiv;split
 ·omega
 ·rw [Nat.add_mul];omega
theorem cdiv_le {a b c:Nat} (hb:0<b) (h:a≤c*b):cdiv a b≤c:=by
 have k:=cdiv_lt a b hb
 rcases Nat.lt_or_ge c (cdiv a b) with h1|h1
 ·have:(c+1)*b≤cdiv a b*b:=Nat.mul_le_mul_right b h1
  rw [Nat.add_mul] at this;omega
 ·exact h1
theorem cdiv_self_le (a b:Nat) (hb:0<b):cdiv a b≤a:=cdiv_le hb (Nat.le_mul_of_pos_right a hb)
abbrev PP:=Nat×Nat
def hfP (x:PP) (n:Nat):PP:=(x.1/2^n,cdiv x.2 (2^n))
def tmP (x y:PP) (p:Nat):PP:=hfP (x.1*y.1,x.2*y.2) p
def ovP (x:PP) (n:Nat):PP:=(x.1/n,cdiv x.2 n)
def plP (x y:PP):PP:=(x.1+y.1,x.2+y.2)
def fxP (m:Nat) (e:Int) (p:Nat):PP:=if 0≤e+p then (m*2^(e+p).toNat,m*2^(e+p).toNat) else hfP (m,m) (-(e+p)).toNat
def grT (t:PP) (p:Nat):Nat→PP
 |0=>(2^p,2^p)
 |i+1=>ovP (tmP (grT t p i) t p) (i+1)
def geS (t:PP) (p:Nat):Nat→PP
 |0=>grT t p 0
 |n+1=>plP (geS t p n) (grT t p (n+1))
def sqP (x:PP) (p:Nat):Nat→PP
 |0=>x
 |j+1=>tmP (sqP x p j) (sqP x p j) p
def up4 (x:PP):PP:=(x.1,x.2+4)
def InE (p:Nat) (y:Rat) (x:PP):Prop:=(∃T,(x.1:Rat)≤(2:Rat)^p*EE y T)∧ ∀T,(2:Rat)^p*EE y T≤(x.2:Rat)
theorem fdiv_cast (a b:Nat):((a/b:Nat):Rat)*(b:Rat)≤(a:Rat):=by
 rw [←cast_mul];exact natle (Nat.div_mul_le_self a b)
theorem cdiv_cast (a b:Nat) (hb:0<b):(a:Rat)≤((cdiv a b:Nat):Rat)*(b:Rat):=by
 rw [←cast_mul];exact natle (cdiv_ge a b hb)
theorem mul_le_mul2 {a b c d:Rat} (ha:0≤a) (h:a≤b) (hc:0≤c) (k:c≤d):a*c≤b*d:=by
 have p:=Rat.mul_le_mul_of_nonneg_right h hc
 have q:=Rat.mul_le_mul_of_nonneg_left k (show 0≤b by grind)
 grind
theorem grT_in (t:PP) (p:Nat) (y:Rat) (hy:0≤y) (h1:(t.1:Rat)≤(2:Rat)^p*y) (h2:(2:Rat)^p*y≤(t.2:Rat)):
 ∀i,((grT t p i).1:Rat)≤(2:Rat)^p*ep y i∧(2:Rat)^p*ep y i≤((grT t p i).2:Rat)
 |0=>by
  have e0:ep y 0=1:=rfl
  rw [e0]
  show ((2^p:Nat):Rat)≤_∧_≤((2^p:Nat):Rat)
  rw [two_cast]
  constructor<;>grind
 |i+1=>by
  obtain ⟨a,b⟩:=grT_in t p y hy h1 h2 i
  have P:=pow2_pos p
  have en:=ep_nonneg y hy i
  have hi:=nat_pos i
  have es:=ep_succ y i
  have lo1:=fdiv_cast ((grT t p i).1*t.1) (2^p)
  have lo2:=fdiv_cast ((grT t p i).1*t.1/2^p) (i+1)
  have hi1:=cdiv_cast ((grT t p i).2*t.2) (2^p) (Nat.two_pow_pos _)
  have hi2:=cdiv_cast (cdiv ((grT t p i).2*t.2) (2^p)) (i+1) (by omega)
  rw [two_cast,cast_mul] at lo1 hi1
  have m1:=mul_le_mul2 (Rat.natCast_nonneg (a:=(grT t p i).1)) a (Rat.natCast_nonneg (a:=t.1)) h1
  have m2:=mul_le_mul2 (Rat.mul_nonneg (show (0:Rat)≤2^p by grind) en) b (Rat.mul_nonneg (show (0:Rat)≤2^p by grind) hy) h2
  show ((((grT t p i).1*t.1/2^p)/(i+1):Nat):Rat)≤_∧_≤((cdiv (cdiv ((grT t p i).2*t.2) (2^p)) (i+1):Nat):Rat)
  generalize (((grT t p i).1*t.1/2^p/(i+1):Nat):Rat)=A at *
  generalize (((grT t p i).1*t.1/2^p:Nat):Rat)=B at *
  generalize ((cdiv (cdiv ((grT t p i).2*t.2) (2^p)) (i+1):Nat):Rat)=C at *
  generalize ((cdiv ((grT t p i).2*t.2) (2^p):Nat):Rat)=E at *
  generalize ((grT t p i).1:Rat)*(t.1:Rat)=u at *
  generalize ((grT t p i).2:Rat)*(t.2:Rat)=v at *
  generalize ((i+1:Nat):Rat)=n at *
  generalize (2:Rat)^p=Q at *
  have c1:B≤Q*(ep y i*y):=by
   apply Rat.le_of_mul_le_mul_left _ P
   grind
  have c2:Q*(ep y i*y)≤E:=by
   apply Rat.le_of_mul_le_mul_left _ P
   grind
  constructor
  ·apply Rat.le_of_mul_le_mul_left _ hi
   have:n*(Q*ep y (i+1))=Q*(ep y i*y):=by grind
   rw [this];grind
  ·apply Rat.le_of_mul_le_mul_left _ hi
   have:n*(Q*ep y (i+1))=Q*(ep y i*y):=by grind
   rw [this];grind
theorem grS_in (t:PP) (p:Nat) (y:Rat) (hy:0≤y) (h1:(t.1:Rat)≤(2:Rat)^p*y) (h2:(2:Rat)^p*y≤(t.2:Rat)):
 ∀n,((geS t p n).1:Rat)≤(2:Rat)^p*EE y (n+1)∧(2:Rat)^p*EE y (n+1)≤((geS t p n).2:Rat)
 |0=>by
  have h:=grT_in t p y hy h1 h2 0
  have e:EE y (0+1)=ep y 0:=by unfold EE;simp only [sumQ];grind
  rw [e];exact h
 |n+1=>by
  obtain ⟨a,b⟩:=grS_in t p y hy h1 h2 n
  obtain ⟨c,d⟩:=grT_in t p y hy h1 h2 (n+1)
  have e:EE y (n+1+1)=EE y (n+1)+ep y (n+1):=rfl
  rw [e]
  show (((geS t p n).1+(grT t p (n+1)).1:Nat):Rat)≤_∧_≤(((geS t p n).2+(grT t p (n+1)).2:Nat):Rat)
  rw [Rat.natCast_add,Rat.natCast_add]
  constructor<;>grind
theorem EE_tail (y:Rat) (hy:0≤y) (h:2*y≤1) (n:Nat): ∀k,EE y (n+1+k)+ep y (n+k)≤EE y (n+1)+ep y n
 |0=>by show EE y (n+1)+ep y n≤_;grind
 |k+1=>by
  have ih:=EE_tail y hy h n k
  have a:=ep_succ y (n+k)
  have b:=ep_nonneg y hy (n+k)
  have c:=ep_nonneg y hy (n+k+1)
  have d:=Rat.mul_le_mul_of_nonneg_right (natle (show 1≤n+k+1 by omega)) c
  have e:=Rat.mul_le_mul_of_nonneg_right h b
  have f:EE y (n+1+(k+1))=EE y (n+1+k)+ep y (n+1+k):=rfl
  rw [f,show n+1+k=n+k+1 by omega,show n+(k+1)=n+k+1 by omega]
  rw [show n+1+k=n+k+1 by omega] at ih
  have o:((1:Nat):Rat)=1:=rfl
  rw [o] at d
  grind
theorem EE_rest (y:Rat) (hy:0≤y) (h:2*y≤1) (n T:Nat):EE y T≤EE y (n+1)+ep y n:=by
 have a:=EE_tail y hy h n T
 have b:=ep_nonneg y hy (n+T)
 have c:=EE_le y hy (show T≤n+1+T by omega)
 grind
theorem grow_in (t:PP) (p:Nat) (y:Rat) (hy:0≤y) (h:2*y≤1) (h1:(t.1:Rat)≤(2:Rat)^p*y) (h2:(2:Rat)^p*y≤(t.2:Rat)) (n:Nat) (hn:(grT t p n).2≤1):
 InE p y (up4 (geS t p n)):=by
 obtain ⟨a,b⟩:=grS_in t p y hy h1 h2 n
 obtain ⟨-,d⟩:=grT_in t p y hy h1 h2 n
 refine ⟨⟨n+1,a⟩,fun T=>?_⟩
 have e:=EE_rest y hy h n T
 have P:=pow2_pos p
 have f:=Rat.mul_le_mul_of_nonneg_left e (show (0:Rat)≤2^p by grind)
 have g:=natle hn
 have o:((1:Nat):Rat)=1:=rfl
 have o4:((4:Nat):Rat)=4:=rfl
 rw [o] at g
 show _≤(((geS t p n).2+4:Nat):Rat)
 rw [Rat.natCast_add,o4]
 grind
theorem times_in {p:Nat} {x y:Rat} {u v:PP} (hx:0≤x) (hy:0≤y) (hu:InE p x u) (hv:InE p y v):InE p (x+y) (tmP u v p):=by
 obtain ⟨⟨T,a⟩,b⟩:=hu
 obtain ⟨⟨S,c⟩,d⟩:=hv
 have P:=pow2_pos p
 constructor
 ·refine ⟨(T+S)+(T+S),?_⟩
  have e:=EE_add_ge x y hx hy (T+S)
  have e1:=EE_le x hx (show T≤T+S by omega)
  have e2:=EE_le y hy (show S≤T+S by omega)
  have m1:=Rat.mul_le_mul_of_nonneg_left e1 (show (0:Rat)≤2^p by grind)
  have m2:=Rat.mul_le_mul_of_nonneg_left e2 (show (0:Rat)≤2^p by grind)
  have f:=fdiv_cast (u.1*v.1) (2^p)
  rw [two_cast,cast_mul] at f
  have g:=mul_le_mul2 (Rat.natCast_nonneg (a:=u.1)) (show (u.1:Rat)≤(2:Rat)^p*EE x (T+S) by grind) (Rat.natCast_nonneg (a:=v.1)) (show (v.1:Rat)≤(2:Rat)^p*EE y (T+S) by grind)
  have k:=Rat.mul_le_mul_of_nonneg_left e (show (0:Rat)≤2^p by grind)
  show ((u.1*v.1/2^p:Nat):Rat)≤_
  apply Rat.le_of_mul_le_mul_left _ P
  have k2:=Rat.mul_le_mul_of_nonneg_left k (show (0:Rat)≤2^p by grind)
  grind
 ·intro R
  have e:=EE_add_le x y hx hy R
  have f:=cdiv_cast (u.2*v.2) (2^p) (Nat.two_pow_pos _)
  rw [two_cast,cast_mul] at f
  have g:=mul_le_mul2 (Rat.mul_nonneg (show (0:Rat)≤2^p by grind) (EE_nonneg x hx R)) (b R) (Rat.mul_nonneg (show (0:Rat)≤2^p by grind) (EE_nonneg y hy R)) (d R)
  have k:=Rat.mul_le_mul_of_nonneg_left e (show (0:Rat)≤2^p by grind)
  have k2:=Rat.mul_le_mul_of_nonneg_left k (show (0:Rat)≤2^p by grind)
  show _≤((cdiv (u.2*v.2) (2^p):Nat):Rat)
  apply Rat.le_of_mul_le_mul_left _ P
  grind
theorem sq_in {p:Nat} {y:Rat} {x:PP} (hy:0≤y) (h:InE p y x): ∀j:Nat,InE p ((2:Rat)^j*y) (sqP x p j)
 |0=>by rw [Rat.pow_zero,Rat.one_mul];exact h
 |j+1=>by
  have ih:=sq_in hy h j
  have hj:=Rat.mul_nonneg (show (0:Rat)≤2^j by have:=pow2_pos j;grind) hy
  have:=times_in hj hj ih ih
  have e:(2:Rat)^(j+1)*y=(2:Rat)^j*y+(2:Rat)^j*y:=by rw [pow2_succ];grind
  rw [e];exact this
end Go.Ulp
