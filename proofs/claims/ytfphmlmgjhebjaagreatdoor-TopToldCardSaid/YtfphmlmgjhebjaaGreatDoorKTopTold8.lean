/- TopTold: what the proof leans on, part 8 (Sy0 Tx0 Tx3 Dd2 Q3 Q5 Dn2). -/
import Derived.Lib.ItoaNum
import Derived.Shelf.Spec.TrailingZeros
import Derived.Deep.DeepCutAuto
import Derived.Deep.CutBlock
import Derived.Test.YtfphmlmgjhebjaaGreatDoorKTopTold1
import Derived.Test.YtfphmlmgjhebjaaGreatDoorKTopTold2
import Derived.Test.YtfphmlmgjhebjaaGreatDoorKTopTold3
import Derived.Test.YtfphmlmgjhebjaaGreatDoorKTopTold4
import Derived.Test.YtfphmlmgjhebjaaGreatDoorKTopTold5
import Derived.Test.YtfphmlmgjhebjaaGreatDoorKTopTold7
set_option linter.unusedVariables false
set_option linter.unusedSimpArgs false
namespace Go.Ulp
open Go.RowKit
theorem cmpI_ng (a b:Int):cmpI a b<0↔a<b:=by
 unfold cmpI
 by_cases h:a<b
 ·rw [if_pos h];omega
 ·rw [if_neg h];split<;>omega
theorem cmpI_ps (a b:Int):0<cmpI a b↔b<a:=by
 unfold cmpI
 by_cases h:a<b
 ·rw [if_pos h];omega
 ·rw [if_neg h];split<;>omega
theorem cmpI_lq (a b:Int):cmpI a b≤0↔a≤b:=by
 have:=cmpI_ps a b;omega
def fitR (K A B r:Nat):Prop:=(rdM K A B ((r:Int)-1)<0∧0<rdM K A B r)∨(r%2=0∧(rdM K A B ((r:Int)-1)=0∨rdM K A B r=0))
theorem rdC_nat (K A B l:Nat):rdC K A B (l:Int)=cmpI ((rvi l*B:Nat):Int) ((A*2^K:Nat):Int):=by
 unfold rdC
 rw [rvs_nat9,pw_nat,Int.natCast_mul,Int.natCast_mul]
theorem rdM_nat (K A B l:Nat):rdM K A B (l:Int)=cmpI ((rvi l*B+rvi (l+1)*B:Nat):Int) ((2*(A*2^K):Nat):Int):=by
 unfold rdM
 rw [show (l:Int)+1=((l+1:Nat):Int) by omega,rvs_nat9,rvs_nat9,pw_nat,Int.natCast_mul 2,Int.natCast_mul A,Int.natCast_add,Int.natCast_mul,Int.natCast_mul,Int.add_mul]
 rfl
theorem read_fits (K A B r l:Nat) (hB:0<B) (hr:1≤r) (hr2:r<9218868437227405312) (l1:l<9218868437227405312) (l2:rdC K A B l≤0) (l3:l+1=9218868437227405312∨0<rdC K A B ((l:Int)+1)):
 (rdA K A B 0 l).1=(r:Int)↔fitR K A B r:=by
 have mono: ∀a b:Nat,a<b→rvi a*B<rvi b*B:=fun a b h=>Nat.mul_lt_mul_of_pos_right (rvi_mono h) hB
 have cl:=rdC_nat K A B l
 have cl1:=rdC_nat K A B (l+1)
 have cm:=rdM_nat K A B l
 have cr:=rdM_nat K A B r
 have cr1:=rdM_nat K A B (r-1)
 rw [show ((l+1:Nat):Int)=(l:Int)+1 by omega] at cl1
 rw [show ((r-1:Nat):Int)=(r:Int)-1 by omega,show r-1+1=r by omega] at cr1
 obtain ⟨V,hV⟩: ∃V,V=A*2^K:=⟨_,rfl⟩
 rw [←hV] at cl cl1 cm cr cr1
 unfold rdA rdU fitR
 rw [cl] at l2 ⊢
 rw [cl1] at l3
 rw [cm,cr,cr1]
 have a1:=cmpI_ng ((rvi l*B+rvi (l+1)*B:Nat):Int) ((2*V:Nat):Int)
 have a2:=cmpI_eq_zero ((rvi l*B+rvi (l+1)*B:Nat):Int) ((2*V:Nat):Int)
 have b1:=cmpI_ng ((rvi r*B+rvi (r+1)*B:Nat):Int) ((2*V:Nat):Int)
 have b2:=cmpI_eq_zero ((rvi r*B+rvi (r+1)*B:Nat):Int) ((2*V:Nat):Int)
 have b3:=cmpI_ps ((rvi r*B+rvi (r+1)*B:Nat):Int) ((2*V:Nat):Int)
 have d1:=cmpI_ng ((rvi (r-1)*B+rvi r*B:Nat):Int) ((2*V:Nat):Int)
 have d2:=cmpI_eq_zero ((rvi (r-1)*B+rvi r*B:Nat):Int) ((2*V:Nat):Int)
 have e1:=cmpI_lq ((rvi l*B:Nat):Int) ((V:Nat):Int)
 have e2:=cmpI_eq_zero ((rvi l*B:Nat):Int) ((V:Nat):Int)
 have f1:=cmpI_ps ((rvi (l+1)*B:Nat):Int) ((V:Nat):Int)
 rw [e1] at l2
 rw [f1] at l3
 rw [b3,d1,d2,b2]
 have m1:=mono l (l+1) (by omega)
 have m2:=mono r (r+1) (by omega)
 have m3:=mono (r-1) r (by omega)
 have key: ∀a b:Nat,rvi a*B<rvi b*B→a<b:=fun a b h=>by
  rcases Nat.lt_or_ge a b with h2|h2
  ·exact h2
  ·rcases Nat.lt_or_ge b a with h3|h3
   ·have:=mono b a h3;omega
   ·rw [show a=b by omega] at h;omega
 have up:(decide ((0:Int)=1∨((0:Int)=0∧(cmpI ((rvi l*B+rvi (l+1)*B:Nat):Int) ((2*V:Nat):Int)<0∨(cmpI ((rvi l*B+rvi (l+1)*B:Nat):Int) ((2*V:Nat):Int)=0∧(l:Int)%2=1)))∨((0:Int)=4∧cmpI ((rvi l*B+rvi (l+1)*B:Nat):Int) ((2*V:Nat):Int)≤0))=true)↔(rvi l*B+rvi (l+1)*B<2*V∨(rvi l*B+rvi (l+1)*B=2*V∧l%2=1)):=by
  rw [decide_eq_true_eq,a1,a2];omega
 by_cases hz:((rvi l*B:Nat):Int)=((V:Nat):Int)
 ·rw [if_pos (e2.2 hz)]
  show (l:Int)=r↔_
  constructor
  ·intro h
   have h:l=r:=by omega
   subst h
   left;omega
  ·intro h
   have h1:r-1<l:=key _ _ (by omega)
   have h2:l<r+1:=key _ _ (by omega)
   omega
 ·rw [if_neg (fun h=>hz (e2.1 h))]
  by_cases hu:(rvi l*B+rvi (l+1)*B<2*V∨(rvi l*B+rvi (l+1)*B=2*V∧l%2=1))
  ·rw [if_pos (up.2 hu)]
   show (l:Int)+1=r↔_
   constructor
   ·intro h
    have h:r=l+1:=by omega
    subst h
    rw [show l+1-1=l by omega] at *
    have h5:V<rvi (l+1)*B:=by omega
    rcases hu with h6|⟨h6,h7⟩
    ·left;omega
    ·right;omega
   ·intro h
    have h1:r-1<l+1:=by
     rcases l3 with h9|h9
     ·omega
     ·exact key _ _ (by omega)
    have h2:l<r+1:=key _ _ (by omega)
    by_cases h3:r=l+1
    ·omega
    ·exfalso
     have h4:r=l:=by omega
     subst h4
     omega
  ·rw [if_neg (fun h=>hu (up.1 h))]
   show (l:Int)=r↔_
   constructor
   ·intro h
    have h:l=r:=by omega
    subst h
    by_cases h6:rvi l*B+rvi (l+1)*B=2*V
    ·right;omega
    ·left;omega
   ·intro h
    have h2:l<r+1:=key _ _ (by omega)
    by_cases h3:l+1=9218868437227405312
    ·omega
    ·have h5:V<rvi (l+1)*B:=by omega
     have h1:r-1<l+1:=key _ _ (by omega)
     by_cases h4:r=l+1
     ·exfalso
      subst h4
      rw [show l+1-1=l by omega] at *
      omega
     ·omega
def cmpT (n:Nat) (k:Int) (m:Nat) (ex:Int):Int:=cmpI ((n*10^k.toNat*2^(-ex).toNat:Nat):Int) ((m*2^ex.toNat*10^(-k).toNat:Nat):Int)
def lmM (E f:Nat):Nat:=if E=0 then f else f+4503599627370496
def lmH (E:Nat):Nat:=E-1
def lmL (E f:Nat):Nat:=if f=0∧1<E then 4*lmM E f-1 else 4*lmM E f-2
def lmX (E:Nat):Int:=(lmH E:Int)-1076
theorem rvi_lm (E f:Nat) (hf:f<4503599627370496):rvi (E*4503599627370496+f)=lmM E f*2^lmH E∧rvi (E*4503599627370496+f+1)=(lmM E f+1)*2^lmH E:=by
 unfold lmM lmH
 by_cases h:E=0
 ·subst h
  have:=rvi_parts 0 f (by omega) (.inl rfl)
  rw [if_pos rfl,Nat.zero_mul,Nat.zero_add,show 0-1=0 by omega]
  rw [Nat.zero_mul,Nat.zero_add] at this
  exact this
 ·have:=rvi_parts (E-1) (f+4503599627370496) (by omega) (.inr (by omega))
  rw [if_neg h]
  rw [show (E-1)*4503599627370496+(f+4503599627370496)=E*4503599627370496+f by omega] at this
  exact this
theorem lm_low (E f:Nat) (hf:f<4503599627370496) (hr:1≤E*4503599627370496+f):2*(rvi (E*4503599627370496+f-1)+rvi (E*4503599627370496+f))=lmL E f*2^lmH E:=by
 have h0:=(rvi_lm E f hf).1
 by_cases h:f=0∧1<E
 ·obtain ⟨rfl,hE⟩:=h
  have h1:=(rvi_lm (E-1) 4503599627370495 (by omega)).1
  rw [show (E-1)*4503599627370496+4503599627370495=E*4503599627370496+0-1 by omega] at h1
  rw [h0,h1]
  unfold lmL lmM
  rw [if_pos (show (0:Nat)=0∧1<E from ⟨rfl,hE⟩),if_neg (show ¬E=0 by omega),if_neg (show ¬E-1=0 by omega)]
  have h2:lmH E=lmH (E-1)+1:=by unfold lmH;omega
  rw [h2,Nat.pow_succ]
  generalize 2^lmH (E-1)=P
  omega
 ·unfold lmL
  rw [if_neg h]
  by_cases hf0:f=0
  ·subst hf0
   have hE1:E=1:=by
    by_cases h3:E=1
    ·exact h3
    ·exact absurd (And.intro rfl (by omega:1<E)) h
   subst hE1
   have h1:=(rvi_lm 0 4503599627370495 (by omega)).1
   rw [show 1*4503599627370496+0-1=0*4503599627370496+4503599627370495 by omega,h1,h0]
   decide
  ·have h1:=rvi_lm E (f-1) (by omega)
   have h2:lmM E (f-1)=lmM E f-1:=by unfold lmM;split<;>omega
   have h3:1≤lmM E f:=by unfold lmM;split<;>omega
   rw [show E*4503599627370496+f-1=E*4503599627370496+(f-1) by omega,h1.1,h0,h2]
   obtain ⟨a,ha⟩: ∃a,lmM E f=a+1:=⟨lmM E f-1,by omega⟩
   rw [ha,show a+1-1=a by omega,←Nat.add_mul,←Nat.mul_assoc]
   congr 1;omega
theorem lm_high (E f:Nat) (hf:f<4503599627370496):2*(rvi (E*4503599627370496+f)+rvi (E*4503599627370496+f+1))=(4*lmM E f+2)*2^lmH E:=by
 obtain ⟨h0,h1⟩:=rvi_lm E f hf
 rw [h0,h1,←Nat.add_mul,←Nat.mul_assoc]
 congr 1;omega
theorem cmpT_at (n:Nat) (k:Int) (m h:Nat) (y A B:Nat) (hA:A=n*10^k.toNat) (hB:B=10^(-k).toNat) (hy:2*y=m*2^h):
 cmpT n k m ((h:Int)-1076)= -cmpI ((y*B:Nat):Int) ((2*(A*2^1074):Nat):Int):=by
 rw [cmpI_swap,Int.neg_neg]
 unfold cmpT
 rw [←hA,←hB]
 obtain ⟨K,hK⟩: ∃K:Nat,K=1074:=⟨_,rfl⟩
 obtain ⟨S,hS⟩: ∃S:Nat,S=K+2:=⟨_,rfl⟩
 rw [←hK,show (1076:Int)=(S:Int) by omega]
 have e2:(2*(A*2^K))*2=A*2^S:=by
  rw [hS,Nat.pow_add,show (2:Nat)^2=4 from rfl]
  generalize (2:Nat)^K=P
  rw [Nat.mul_assoc,Nat.mul_comm 2 (A*P*2),←Nat.mul_assoc A P 4];omega
 have e3:y*B*2=m*2^h*B:=by rw [←hy,Nat.mul_right_comm,Nat.mul_comm y 2]
 rw [←cmpI_nat_scale (2*(A*2^K)) (y*B) 2 (by omega),e2,e3]
 clear e2
 by_cases hc:S≤h
 ·rw [show (-((h:Int)-(S:Int))).toNat=0 by omega,show ((h:Int)-(S:Int)).toNat=h-S by omega,Nat.pow_zero,Nat.mul_one,
   ←cmpI_nat_scale A (m*2^(h-S)*B) (2^S) (Nat.two_pow_pos _)]
  congr 2
  rw [Nat.mul_right_comm,Nat.mul_assoc m,←Nat.pow_add,show h-S+S=h by omega]
 ·rw [show (-((h:Int)-(S:Int))).toNat=S-h by omega,show ((h:Int)-(S:Int)).toNat=0 by omega,Nat.pow_zero,Nat.mul_one,
   ←cmpI_nat_scale (A*2^(S-h)) (m*B) (2^h) (Nat.two_pow_pos _)]
  congr 2
  ·rw [Nat.mul_assoc A,←Nat.pow_add,show S-h+h=S by omega]
  ·rw [Nat.mul_right_comm]
def fitP (E f n:Nat) (k:Int):Bool:=(decide (0<cmpT n k (lmL E f) (lmX E))&&decide (cmpT n k (4*lmM E f+2) (lmX E)<0))||(decide (f%2=0)&&(decide (cmpT n k (lmL E f) (lmX E)=0)||decide (cmpT n k (4*lmM E f+2) (lmX E)=0)))
theorem fitP_iff (E f n:Nat) (k:Int) (hf:f<4503599627370496) (hr:1≤E*4503599627370496+f):fitP E f n k=true↔fitR 1074 (n*10^k.toNat) (10^(-k).toNat) (E*4503599627370496+f):=by
 obtain ⟨r,hr2⟩: ∃r,r=E*4503599627370496+f:=⟨_,rfl⟩
 have h1:=cmpT_at n k (lmL E f) (lmH E) (rvi (r-1)+rvi r) _ _ rfl rfl (by rw [hr2];exact lm_low E f hf hr)
 have h2:=cmpT_at n k (4*lmM E f+2) (lmH E) (rvi r+rvi (r+1)) _ _ rfl rfl (by rw [hr2];exact lm_high E f hf)
 have g1:=rdM_nat 1074 (n*10^k.toNat) (10^(-k).toNat) (r-1)
 have g2:=rdM_nat 1074 (n*10^k.toNat) (10^(-k).toNat) r
 rw [show ((r-1:Nat):Int)=(r:Int)-1 by omega,show r-1+1=r by omega,←Nat.add_mul] at g1
 rw [←Nat.add_mul] at g2
 rw [←g1] at h1
 rw [←g2] at h2
 have hp:f%2=r%2:=by omega
 unfold fitP fitR lmX
 rw [←hr2,h1,h2,hp]
 simp only [Bool.or_eq_true,Bool.and_eq_true,decide_eq_true_eq]
 omega
abbrev decD:=Lib.decDigits
theorem decD_small {n:Nat} (h:n<10):decD n= [UInt8.ofNat (48+n)]:=by unfold decD;rw [Lib.decDigits,dif_pos h]
theorem decD_big {n:Nat} (h: ¬n<10):decD n=decD (n/10)++ [UInt8.ofNat (48+n%10)]:=by unfold decD;conv=>lhs;rw [Lib.decDigits,dif_neg h]
theorem decD_step (q d:Nat) (hq:0<q) (hd:d<10):decD (q*10+d)=decD q++ [UInt8.ofNat (48+d)]:=by
 rw [decD_big (by omega),show (q*10+d)/10=q by omega,show (q*10+d)%10=d by omega]
def padz (k:Nat) (L:List UInt8):List UInt8:=List.replicate (k-L.length) 48++L
theorem padz_len (k:Nat) (L:List UInt8):(padz k L).length=max k L.length:=by unfold padz;rw [List.length_append,List.length_replicate];omega
theorem padz_long (k:Nat) (L:List UInt8) (h:k≤L.length):padz k L=L:=by unfold padz;rw [show k-L.length=0 by omega];rfl
theorem padz_cons (k:Nat) (L:List UInt8) (h:L.length<k):padz k (48::L)=padz k L:=by
 unfold padz
 obtain ⟨j,hj⟩: ∃j,k-L.length=j+1:=⟨k-L.length-1,by omega⟩
 rw [List.length_cons,show k-(L.length+1)=j by omega,hj,List.replicate_succ']
 simp
theorem padz_snoc (k:Nat) (L:List UInt8) (c:UInt8):padz (k+1) (L++ [c])=padz k L++ [c]:=by
 unfold padz
 rw [List.length_append,List.length_singleton,show k+1-(L.length+1)=k-L.length by omega,List.append_assoc]
theorem decD_pos (n:Nat):0<(decD n).length:=by
 by_cases h:n<10
 ·rw [decD_small h];simp
 ·rw [decD_big h];simp
theorem decD_ne (n:Nat):decD n≠ []:=fun h=>by have:=decD_pos n;rw [h] at this;simp at this
theorem decD_len: ∀(k n:Nat),n<10^(k+1)→(decD n).length≤k+1
 |0,n,h=>by rw [decD_small (by simpa using h)];simp
 |k+1,n,h=>by
  by_cases hn:n<10
  ·rw [decD_small hn];simp
  ·rw [decD_big hn,List.length_append,List.length_singleton]
   have:=decD_len k (n/10) (by rw [Nat.pow_succ] at h;omega)
   omega
theorem padz_dec_zero (k:Nat):padz (k+1) (decD 0)=List.replicate (k+1) 48:=by
 rw [decD_small (by omega)]
 unfold padz
 show List.replicate k 48++ [(48:UInt8)]=_
 rw [List.replicate_succ']
theorem dec_split: ∀(k q r:Nat),0<q→r<10^(k+1)→decD (q*10^(k+1)+r)=decD q++padz (k+1) (decD r)
 |0,q,r,hq,hr=>by
  have hr':r<10:=by simpa using hr
  rw [Nat.pow_succ,Nat.pow_zero,Nat.one_mul,decD_step q r hq hr',decD_small hr']
  rfl
 |k+1,q,r,hq,hr=>by
  have hr2:r/10<10^(k+1):=by rw [Nat.pow_succ] at hr;omega
  have ih:=dec_split k q (r/10) hq hr2
  have e:q*10^(k+1+1)+r=(q*10^(k+1)+r/10)*10+r%10:=by
   rw [Nat.pow_succ,←Nat.mul_assoc];omega
  have hp:0<q*10^(k+1):=Nat.mul_pos hq (Nat.pow_pos (by omega))
  rw [e,decD_step _ _ (by omega) (Nat.mod_lt _ (by omega)),ih,List.append_assoc]
  congr 1
  rw [←padz_snoc]
  by_cases hs:r<10
  ·rw [show r/10=0 by omega,show r%10=r by omega,decD_small hs,decD_small (by omega:0<10)]
   exact padz_cons (k+1+1) [UInt8.ofNat (48+r)] (by simp)
  ·rw [←decD_big hs]
theorem dec_nine (a:Nat) (h:0<a/1000000000):decD a=decD (a/1000000000)++padz 9 (decD (a%1000000000)):=by
 have h1:=dec_split 8 (a/1000000000) (a%1000000000) h (Nat.mod_lt _ (by omega))
 rw [show (10:Nat)^(8+1)=1000000000 by decide,show a/1000000000*1000000000+a%1000000000=a by omega] at h1
 exact h1
def rtN (neg:Bool) (a b:Nat) (mode:Int):Nat:=if a%b≠0∧upN neg (decide (a/b%2=1)) (cmpI ((2*(a%b):Nat):Int) (b:Int)) mode=true then a/b+1 else a/b
def rtC (a b:Nat):Bool:=decide (a%b≠0)
theorem rtN_ge (neg:Bool) (a b:Nat) (mode:Int):a/b≤rtN neg a b mode∧rtN neg a b mode≤a/b+1:=by
 unfold rtN;split<;>omega
theorem rtN_le (neg:Bool) (a b:Nat) (mode:Int) (hb:0<b) (k:Nat) (h:a<k*b):rtN neg a b mode≤k:=by
 have:=Nat.div_lt_of_lt_mul (show a<b*k by rw [Nat.mul_comm];exact h)
 have:=(rtN_ge neg a b mode).2
 omega
def ptd (D:List UInt8) (p:Nat):List UInt8:=if p=0 then D else (padz (p+1) D).take ((padz (p+1) D).length-p)++46::(padz (p+1) D).drop ((padz (p+1) D).length-p)
theorem ptd_zero (D:List UInt8):ptd D 0=D:=if_pos rfl
theorem ptd_pos (D:List UInt8) (p:Nat) (h:0<p):ptd D p=(padz (p+1) D).take ((padz (p+1) D).length-p)++46::(padz (p+1) D).drop ((padz (p+1) D).length-p):=if_neg (by omega)
theorem ptd_len (D:List UInt8) (p:Nat):(ptd D p).length≤max (p+1) D.length+1:=by
 unfold ptd
 split
 ·omega
 ·rw [List.length_append,List.length_cons,List.length_take,List.length_drop,padz_len];omega
def dsh (neg:Bool) (L:List UInt8):List UInt8:=if neg=true then 45::L else L
def tnN (k:Int):Nat:=10^k.toNat
def lessT (a b:Nat) (p:Int):Bool:=decide (a*tnN (-p)<b*tnN p)
theorem tnN_pos (k:Int):0<tnN k:=Nat.pow_pos (by omega)
theorem tn_step (p:Int):tnN (p+1)*tnN (-p)=10*(tnN p*tnN (-(p+1))):=by
 unfold tnN
 rcases Int.le_total 0 p with h|h
 ·rw [show (p+1).toNat=p.toNat+1 by omega,show (-p).toNat=0 by omega,show (-(p+1)).toNat=0 by omega,Nat.pow_succ];omega
 ·by_cases h2:p=0
  ·subst h2;decide
  ·rw [show (p+1).toNat=0 by omega,show p.toNat=0 by omega,show (-p).toNat=(-(p+1)).toNat+1 by omega,Nat.pow_succ];omega
theorem lessT_mono (a b:Nat) (p:Int) (h:lessT a b p=true):lessT a b (p+1)=true:=by
 have h:=of_decide_eq_true h
 refine decide_eq_true ?_
 have h1:=tn_step p
 have hp:=tnN_pos (-p)
 have hq:=tnN_pos (-(p+1))
 have h2:a*tnN (-p)*tnN (-(p+1))<b*tnN p*tnN (-(p+1)):=(Nat.mul_lt_mul_right hq).2 h
 have h3:b*tnN (p+1)*tnN (-p)=10*(b*tnN p*tnN (-(p+1))):=by
  rw [Nat.mul_assoc,h1];simp only [Nat.mul_assoc,Nat.mul_left_comm]
 have h4:a*tnN (-(p+1))*tnN (-p)<b*tnN (p+1)*tnN (-p):=by
  rw [h3,Nat.mul_right_comm];omega
 exact (Nat.mul_lt_mul_right hp).1 h4
theorem lessT_le (a b:Nat) (p:Int): ∀k:Nat,lessT a b p=true→lessT a b (p+k)=true
 |0,h=>by rw [show p+((0:Nat):Int)=p by omega];exact h
 |k+1,h=>by
  have h1:=lessT_mono a b _ (lessT_le a b p k h)
  rwa [show p+((k+1:Nat):Int)=p+(k:Int)+1 by omega]
def IsDec (a b:Nat) (p:Int):Prop:=lessT a b p=false∧lessT a b (p+1)=true
theorem decD_lt (n:Nat):n<10^(decD n).length:=by
 induction n using Nat.strongRecOn with
 |_ n ih=>
  by_cases h:n<10
  ·rw [decD_small h];simpa using h
  ·have:=ih (n/10) (by omega)
   rw [decD_big h,List.length_append,List.length_singleton,Nat.pow_succ];omega
theorem decD_ge (n:Nat) (h:0<n):10^((decD n).length-1)≤n:=by
 induction n using Nat.strongRecOn with
 |_ n ih=>
  by_cases h1:n<10
  ·rw [decD_small h1];exact h
  ·have h2:=ih (n/10) (by omega) (by omega)
   have h3:=decD_pos (n/10)
   obtain ⟨l,hl⟩: ∃l,(decD (n/10)).length=l+1:=⟨(decD (n/10)).length-1,by omega⟩
   rw [decD_big h1,List.length_append,List.length_singleton,hl,show l+1+1-1=l+1 by omega,Nat.pow_succ]
   rw [hl,show l+1-1=l by omega] at h2
   omega
theorem decD_len_lt (n k:Nat) (h:n<10^k) (hk:0<k):(decD n).length≤k:=by
 obtain ⟨j,rfl⟩: ∃j,k=j+1:=⟨k-1,by omega⟩
 exact decD_len j n h
theorem decD_len_gt (n k:Nat) (h:10^k≤n):k<(decD n).length:=by
 have:=decD_lt n
 exact (Nat.pow_lt_pow_iff_right (by omega:1<10)).1 (Nat.lt_of_le_of_lt h this)
theorem tn_mul (k:Nat) (p:Int):10^k*tnN (-((k:Int)-p))*tnN (-p)=tnN p*tnN ((k:Int)-p):=by
 unfold tnN
 rcases Int.le_total p 0 with h|h
 ·rw [show (-((k:Int)-p)).toNat=0 by omega,show p.toNat=0 by omega,show ((k:Int)-p).toNat=k+(-p).toNat by omega,Nat.pow_add,Nat.pow_zero,Nat.mul_one,Nat.one_mul]
 ·rcases Int.le_total p k with h2|h2
  ·rw [show (-((k:Int)-p)).toNat=0 by omega,show (-p).toNat=0 by omega,←Nat.pow_add,←Nat.pow_add,←Nat.pow_add,show p.toNat+((k:Int)-p).toNat=k+0+0 by omega]
  ·rw [show ((k:Int)-p).toNat=0 by omega,show (-p).toNat=0 by omega,←Nat.pow_add,←Nat.pow_add,←Nat.pow_add,show p.toNat+0=k+(-((k:Int)-p)).toNat+0 by omega]
theorem lessT_tens (a b:Nat) (p:Int) (k:Nat):lessT a b p=decide (a*tnN ((k:Int)-p)<10^k*(b*tnN (-((k:Int)-p)))):=by
 unfold lessT
 rw [decide_eq_decide]
 have h:=tn_mul k p
 have h1:=tnN_pos (-p)
 have h2:=tnN_pos ((k:Int)-p)
 refine (Nat.mul_lt_mul_right h2).symm.trans (Iff.trans ?_ (Nat.mul_lt_mul_right h1))
 have e:10^k*(b*tnN (-((k:Int)-p)))*tnN (-p)=b*tnN p*tnN ((k:Int)-p):=by
  rw [Nat.mul_assoc b,←h];simp only [Nat.mul_assoc,Nat.mul_left_comm]
 rw [e,Nat.mul_right_comm a]
def sciQ (neg:Bool) (a b:Nat) (k:Nat) (p mode:Int):Nat:=rtN neg (a*tnN ((k:Int)-p)) (b*tnN (-((k:Int)-p))) mode
def sciC (a b:Nat) (k:Nat) (p:Int):Bool:=rtC (a*tnN ((k:Int)-p)) (b*tnN (-((k:Int)-p)))
theorem sciQ_bd (neg:Bool) (a b:Nat) (k:Nat) (p mode:Int) (hb:0<b) (h:IsDec a b p):10^k≤sciQ neg a b k p mode∧sciQ neg a b k p mode≤10^(k+1):=by
 have h1:=h.1
 have h2:=h.2
 rw [lessT_tens a b p k] at h1
 rw [lessT_tens a b (p+1) (k+1),show (((k+1:Nat):Int)-(p+1))=(k:Int)-p by omega] at h2
 have h1:=of_decide_eq_false h1
 have h2:=of_decide_eq_true h2
 have hp:=Nat.mul_pos hb (tnN_pos (-((k:Int)-p)))
 unfold sciQ
 exact ⟨Nat.le_trans ((Nat.le_div_iff_mul_le hp).2 (by omega)) (rtN_ge _ _ _ _).1,rtN_le _ _ _ _ hp _ h2⟩
def sciD (q k:Nat):List UInt8:=if 10^(k+1)≤q then decD (q/10) else decD q
def sciP (q k:Nat) (p:Int):Int:=if 10^(k+1)≤q then p+1 else p
theorem sciD_len (q k:Nat) (h0:10^k≤q) (h1:q≤10^(k+1)):(sciD q k).length=k+1:=by
 unfold sciD
 have hp:0<10^k:=Nat.pow_pos (by omega)
 split
 ·rename_i h
  rw [Nat.pow_succ] at h h1
  have e:q/10=10^k:=by omega
  rw [e]
  have h2:=decD_len_gt (10^k) k (Nat.le_refl _)
  have h3:=decD_len k (10^k) (Nat.pow_lt_pow_right (by omega) (by omega))
  omega
 ·rename_i h
  have h2:=decD_len_gt q k h0
  have h3:=decD_len k q (by omega)
  omega
theorem sciD_over (q k:Nat) (h0:10^k≤q) (h1:q≤10^(k+1)):(k+1<(decD q).length)=(10^(k+1)≤q):=by
 refine propext ⟨fun h=>Nat.le_of_not_lt fun h2=>?_,fun h=>decD_len_gt q (k+1) h⟩
 have:=decD_len k q h2
 omega
theorem sciD_take (q k:Nat) (h0:10^k≤q) (h1:q≤10^(k+1)) (h:10^(k+1)≤q):(decD q).take (k+1)=decD (q/10)∧(decD q).length=k+2:=by
 have h2:=sciD_len q k h0 h1
 unfold sciD at h2
 rw [if_pos h] at h2
 have hp:0<10^k:=Nat.pow_pos (by omega)
 have h3: ¬q<10:=by rw [Nat.pow_succ] at h;omega
 rw [decD_big h3,List.take_append_of_le_length (by omega),List.length_append,h2]
 exact ⟨by rw [←h2];exact List.take_length ..,rfl⟩
def pwrT (p:Int):List UInt8:=(if p<0 then 45 else 43)::((if p.natAbs<10 then [48] else [])++decD p.natAbs)
theorem ptd_first (D:List UInt8) (k:Nat) (h:D.length=k+1) (hk:0<k):ptd D k=D.take 1++46::D.drop 1:=by
 rw [ptd_pos D k hk,padz_long _ _ (by omega),h,show k+1-k=1 by omega]
def dyB (n:Nat) (e:Int):Bool:=decide (n≤400∧ -10000≤e∧e≤10000)
end Go.Ulp
namespace Go.Proofs.YtfphmlmgjhebjaaGreatDoor
open Go.RowKit Go.Ulp
set_option maxHeartbeats 1000000
set_option maxRecDepth 100000
end Go.Proofs.YtfphmlmgjhebjaaGreatDoor
namespace Go.Ulp
open Go.RowKit
def DC (w:World) (g o:Nat) (neg:Bool) (v:Value) (e:Int):Prop:=w.cell? ⟨g,o,none⟩=some (.bool neg)∧w.cell? ⟨g,o+1,none⟩=some v∧w.cell? ⟨g,o+2,none⟩=some (.int .i64 e)
theorem DC.below {w w':World} {g o:Nat} {neg:Bool} {v:Value} {e:Int} (h:DC w g o neg v e) (hb:Below w.heap.size w w'):DC w' g o neg v e:=by
 obtain ⟨h1,h2,h3⟩:=h
 exact ⟨(hb.cell (World.block_lt_of_cell? _ _ h1)).trans h1,(hb.cell (World.block_lt_of_cell? _ _ h2)).trans h2,(hb.cell (World.block_lt_of_cell? _ _ h3)).trans h3⟩
theorem cell_set_ne {w:World} {g o o':Nat} {u:Value} (h:o≠o'):(w.setCell ⟨g,o,none⟩ u).cell? ⟨g,o',none⟩=w.cell? ⟨g,o',none⟩:=by
 rw [World.cell?_setCell_other]
 intro e
 injection e with _ e2 _
 exact h e2
theorem Ns.set3 {t:TypeId} {w:World} {ao:Option Addr} {cap:Nat} {L:List Nat} {g:Nat} {n:Bool} {v:Value} {k:Int} (h:Ns .u32 w ao cap L) (z:QL t w g n v k) (hv: ∀x,v≠ .int .u32 x) (u0 u1 u2:Value):
 Ns .u32 (((w.setCell ⟨g,0,none⟩ u0).setCell ⟨g,1,none⟩ u1).setCell ⟨g,2,none⟩ u2) ao cap L:=by
 have h1:=Ns.setCell_kind h ⟨g,0,none⟩ u0 (.bool n) z.1.1 (by intro x e;cases e)
 have h2:=Ns.setCell_kind h1 ⟨g,1,none⟩ u1 v ((cell_set_ne (by omega)).trans z.1.2.1) hv
 exact Ns.setCell_kind h2 ⟨g,2,none⟩ u2 (.int .i64 k) ((cell_set_ne (by omega)).trans ((cell_set_ne (by omega)).trans z.2.1)) (by intro x e;cases e)
end Go.Ulp
namespace Go.Proofs.YtfphmlmgjhebjaaGreatDoor
open Go.RowKit Go.Ulp
set_option maxHeartbeats 1000000
set_option maxRecDepth 100000
end Go.Proofs.YtfphmlmgjhebjaaGreatDoor
namespace Go.Ulp
open Go.RowKit
theorem Nz.drew {e:TypeId} {w:World} {ao:Option Addr} {cap:Nat} {L:List Nat} (h:Nz e w ao cap L):Nz e w.drew ao cap L:=h.below (Below.drew (Below.refl _ _))
theorem ElemIs.set2 {w:World} {b:Nat} {t:TypeId} (h:ElemIs w b t) (g:Nat) (u v:Value):ElemIs ((w.setCell ⟨g,0,none⟩ u).setCell ⟨g,1,none⟩ v) b t:=(h.setCell _ _).setCell _ _
theorem Nz.set2 {e t:TypeId} {w:World} {ao:Option Addr} {cap:Nat} {L:List Nat} (h:Nz e w ao cap L) {g:Nat} (hs:ElemIs w g t) (hne:t≠e) (u v:Value):Nz e ((w.setCell ⟨g,0,none⟩ u).setCell ⟨g,1,none⟩ v) ao cap L:=
 (h.setCell hs hne 0 u).setCell (hs.setCell _ _) hne 1 v
end Go.Ulp
namespace Go.Proofs.YtfphmlmgjhebjaaGreatDoor
open Go.RowKit Go.Ulp
set_option maxHeartbeats 1000000
set_option maxRecDepth 100000
end Go.Proofs.YtfphmlmgjhebjaaGreatDoor
namespace Go.Ulp
open Go.RowKit
def QD (t:TypeId) (w:World) (D:Dy) (A T:Nat) (v:Value):Prop:=
 ∃(x:Int) (n:Nat) (ao:Option Addr) (cap:Nat),v=.agg #[.bool (zneg x),.slice ao (zl x).length cap,.int .i64 (n:Int)]∧Nz t w ao cap (zl x)∧nrm x (-(n:Int))=D∧x.natAbs<2^A∧n≤T
theorem QD.below {t:TypeId} {w w':World} {D:Dy} {A T:Nat} {v:Value} (h:QD t w D A T v) (hb:Below w.heap.size w w'):QD t w' D A T v:=by
 obtain ⟨x,n,ao,cap,h1,h2,h3⟩:=h
 exact ⟨x,n,ao,cap,h1,h2.below hb,h3⟩
theorem abs_add_lt {x y:Int} {A:Nat} (h:x.natAbs<2^A) (h':y.natAbs<2^A):(x+y).natAbs<2^(A+1):=by
 rw [Nat.pow_succ];omega
end Go.Ulp
namespace Go.Proofs.YtfphmlmgjhebjaaGreatDoor
open Go.RowKit Go.Ulp
set_option maxHeartbeats 1000000
set_option maxRecDepth 100000
end Go.Proofs.YtfphmlmgjhebjaaGreatDoor
namespace Go.Ulp
open Go.RowKit
def mantOf (x:Int):Int:=if 0<expOf x then fracOf x+4503599627370496 else fracOf x
def dexp (x:Int):Int:=max (expOf x) 1-1075
def fv (x:Int):Dy:=nrm (sg (negB x) (mantOf x)) (dexp x)
theorem mantOf_bd (x:Int):0≤mantOf x∧mantOf x<9007199254740992:=by have:=fracOf_bd x;unfold mantOf;split<;>omega
theorem dexp_bd (x:Int): -1074≤dexp x∧dexp x≤972:=by have:=expOf_bd x;unfold dexp;omega
end Go.Ulp
namespace Go.Proofs.YtfphmlmgjhebjaaGreatDoor
open Go.RowKit Go.Ulp
set_option maxHeartbeats 1000000
set_option maxRecDepth 100000
end Go.Proofs.YtfphmlmgjhebjaaGreatDoor
namespace Go.Ulp
theorem sg_mul (neg:Bool) (x y:Int):sg neg x*y=sg neg (x*y):=by unfold sg;cases neg<;>simp [Int.neg_mul]
theorem rvs_nat (a:Nat):rvs (a:Int)=(rvi a:Int):=by unfold rvs;rw [if_neg (by omega),Int.natAbs_natCast]
theorem rvs_sg (b:Bool) (a:Nat):rvs (sg b (a:Int))=sg b (rvi a:Int):=by
 cases b
 ·exact rvs_nat a
 ·show rvs (-(a:Int))= -(rvi a:Int);rw [rvs_neg,rvs_nat]
theorem rank_sg (x:Int) (a:Nat) (ha:(a:Int)=x%9223372036854775808):rankOf x=sg (negB x) (a:Int):=by
 unfold rankOf sg negB
 by_cases hn:9223372036854775808≤x
 ·simp [hn,ha]
 ·simp [hn,ha]
theorem fv_rank (x:Int) (h0:0≤x) (h1:x<18446744073709551616):fv x=nrm (rvs (rankOf x)) (-1074):=by
 obtain ⟨a,ha⟩: ∃a:Nat,(a:Int)=x%9223372036854775808:=⟨(x%9223372036854775808).toNat,by omega⟩
 have ee:expOf x=((a/4503599627370496:Nat):Int):=by unfold expOf;omega
 have ef:fracOf x=((a%4503599627370496:Nat):Int):=by unfold fracOf;omega
 obtain ⟨k,hk⟩: ∃k:Nat,(k:Int)=max (expOf x) 1-1:=⟨(max (expOf x) 1-1).toNat,by have:=expOf_bd x;omega⟩
 have hd:dexp x= -1074+(k:Int):=by unfold dexp;omega
 have hv:mantOf x*pw k=(rvi a:Int):=by
  unfold mantOf rvi
  rw [ee,ef] at *
  by_cases h:a<4503599627370496
  ·rw [if_neg (by omega),if_pos h,show k=0 by omega,pw_zero];omega
  ·rw [if_pos (by omega),if_neg h,show k=a/4503599627370496-1 by omega,pw_nat,Int.natCast_mul];congr 1
 unfold fv
 rw [hd,←nrm_scale,sg_mul,hv,rank_sg x a ha,rvs_sg]
open Go.RowKit
theorem QL.far {t:TypeId} {w:World} {g:Nat} {n:Bool} {v:Value} {k:Int} (h:QL t w g n v k) (a:Addr) (u:Value) (hne:g≠a.block):QL t (w.setCell a u) g n v k:=by
 refine ⟨h.1.far a u hne,?_,?_⟩
 ·rw [World.cell?_setCell_other (h:=fun e=>hne (by rw [e]))];exact h.2.1
 ·rw [frozen_setCell];exact h.2.2
end Go.Ulp
namespace Go.Proofs.YtfphmlmgjhebjaaGreatDoor
open Go.RowKit Go.Ulp
set_option maxHeartbeats 1000000
set_option maxRecDepth 100000
end Go.Proofs.YtfphmlmgjhebjaaGreatDoor
namespace Go.Ulp
open Go.RowKit
def VD (w:World) (D:Dy) (v:Value):Prop:= ∃am cm,v=.agg #[.bool (decide (D.1<0)),.slice am (limbs D.1.natAbs).length cm,.int .i64 D.2]∧Ns .u32 w am cm (limbs D.1.natAbs)
def RetVD (w:World) (D:Dy) (e:Ending) (w':World):Prop:= ∃v,e=.returned v∧VD w' D v∧Below w.heap.size w w'
theorem VD.below {w w':World} {D:Dy} {v:Value} (h:VD w D v) (hb:Below w.heap.size w w'):VD w' D v:=by
 obtain ⟨am,cm,h1,h2⟩:=h
 exact ⟨am,cm,h1,h2.below hb⟩
def Tab (g:Nat) (w:World):Prop:=Go.Proofs.TabAt g Go.Lib.deBruijn32tab w
theorem Tab.below {g:Nat} {w w':World} (h:Tab g w) (hb:Below w.heap.size w w'):Tab g w':=fun j hj=>
 (hb.cell (World.block_lt_of_cell? _ _ (h j hj))).trans (h j hj)
theorem ctz_tw (x:Nat) (h0:x≠0) (h1:x<2^32):Lib.ctz 32 x=tw x∧tw x<32:=by
 obtain ⟨m,hm,hk⟩:=Lib.ctzFrom_spec 32 x (by omega) h1
 have e:Lib.ctz 32 x=Lib.ctzFrom 32 x:=by simp [Lib.ctz,h0]
 have h2:=(tw_od_mul (2*m+1) (Lib.ctzFrom 32 x) (by omega)).1
 rw [Nat.mul_comm,←hm] at h2
 rw [e,h2]
 exact ⟨rfl,hk⟩
theorem tw_low (x r:Nat) (h0:x≠0) (h1:x<2^32):tw (x+2^32*r)=tw x:=by
 have hk:=(ctz_tw x h0 h1).2
 obtain ⟨e1,e2⟩:=od_tw x (by omega)
 obtain ⟨d,hd⟩: ∃d,32=tw x+(d+1):=⟨31-tw x,by omega⟩
 have e3:x+2^32*r=(od x+2*(2^d*r))*2^tw x:=by
  have h4:2^32*r=2*(2^d*r)*2^tw x:=by
   rw [hd,Nat.pow_add,Nat.pow_succ]
   simp only [Nat.mul_assoc,Nat.mul_comm,Nat.mul_left_comm]
  rw [Nat.add_mul,e1,h4]
 rw [e3]
 exact (tw_od_mul _ _ (by omega)).1
theorem val_zeros_take (B:Nat) (L:List Nat) (i:Nat) (h: ∀j,j<i→L.getD j 0=0):val B (L.take i)=0:=by
 refine val_zeros B _ (fun d hd=>?_)
 obtain ⟨j,hj,rfl⟩:=List.mem_iff_getElem.1 hd
 rw [List.length_take] at hj
 have h1:=h j (by omega)
 rw [getD_in _ _ (by omega)] at h1
 rw [List.getElem_take];exact h1
theorem tw_limbs (M i x:Nat) (hi:i<(limbs M).length) (hz: ∀j,j<i→(limbs M).getD j 0=0) (hx:(limbs M).getD i 0=x) (hx0:x≠0):tw M=32*i+tw x:=by
 have lL:=limbs_lim M
 have hx1:x<2^32:=by rw [←hx];exact lL.getD (by omega) i
 have h1:=val_take_drop 4294967296 (limbs M) i (by omega)
 have h2:=val_drop 4294967296 (limbs M) i hi
 have h3:=lval_limbs M
 unfold lval at h3
 rw [h3,val_zeros_take _ _ _ hz,h2,hx,Nat.zero_add] at h1
 have e:M=(x+2^32*val 4294967296 ((limbs M).drop (i+1)))*2^(32*i):=by
  conv=>lhs;rw [h1]
  rw [Nat.mul_comm,Nat.pow_mul]
 rw [e,(tw_mul _ _ (by omega)).1,tw_low x _ hx0 hx1];omega
theorem nrm_sg (neg:Bool) (M:Nat) (e:Int) (h:0<M):nrm (sg neg M) e=(sg neg (od M),e+tw M):=by
 have hx:sg neg (M:Int)≠0:=by unfold sg;cases neg<;>simp<;>omega
 have ha:(sg neg (M:Int)).natAbs=M:=by rw [sg_abs,Int.natAbs_natCast]
 have h1:=nrm_abs (sg neg (M:Int)) e hx
 rw [ha] at h1
 obtain ⟨k,h2,h3⟩:=nrm_rep (sg neg (M:Int)) e
 refine Prod.ext ?_ ?_
 ·have hp:=pw_pos k
  have key: ∀y:Int,y.natAbs=od M→sg neg (M:Int)=y*pw k→y=sg neg (od M:Int):=by
   intro y hy1 hy2
   have hod:=od_pos M h
   rcases Int.lt_trichotomy y 0 with hs|hs|hs
   ·have h5:y*pw k<0:=Int.mul_neg_of_neg_of_pos hs hp
    rw [←hy2] at h5
    cases neg
    ·exact absurd h5 (show ¬(M:Int)<0 by omega)
    ·show y= -(od M:Int);omega
   ·subst hs;simp at hy1;omega
   ·have h5:0<y*pw k:=Int.mul_pos hs hp
    rw [←hy2] at h5
    cases neg
    ·show y=(od M:Int);omega
    ·exact absurd h5 (show ¬0< -(M:Int) by omega)
  exact key _ h1 h2
 ·show (nrm (sg neg (M:Int)) e).2=_
  unfold nrm;rw [if_neg hx,ha]
theorem nrm_sg_zero (neg:Bool) (e:Int):nrm (sg neg ((0:Nat):Int)) e=(0,0):=by
 have:sg neg ((0:Nat):Int)=0:=by unfold sg;cases neg<;>rfl
 rw [this];rfl
theorem sg_od_lt (neg:Bool) (M:Nat) (h:0<M):decide (sg neg (od M:Int)<0)=neg∧(sg neg (od M:Int)).natAbs=od M:=by
 have:=od_pos M h
 refine ⟨?_,by rw [sg_abs,Int.natAbs_natCast]⟩
 cases neg
 ·exact decide_eq_false (by show ¬(od M:Int)<0;omega)
 ·exact decide_eq_true (by show -(od M:Int)<0;omega)
end Go.Ulp
namespace Go.Proofs.YtfphmlmgjhebjaaGreatDoor
open Go.RowKit Go.Ulp
set_option maxHeartbeats 1000000
set_option maxRecDepth 100000
theorem tz32_any (x:Nat) (hx:x<4294967296) (hx0:x≠0) (w:World) (hT:Tab 1 w):
 Calls Tryz.prog 219 #[.int .u32 (x:Int)] w fun e w'=>e=.returned (.int .i64 (tw x:Int))∧w=w':=by
 obtain ⟨hlow,hk⟩:=Lib.lowest_bit 32 x hx0 hx
 obtain ⟨hi,htab⟩:=Lib.deBruijn32_at _ hk
 have hcell:=hT _ hi
 rw [htab] at hcell
 have key:=tz32_key x _ hx hx0 hlow
 have hxb:((x:Int)==0)=false:=beq_eq_false_iff_ne.2 (by omega)
 have HE:=hid (ctz_tw x hx0 hx).1
 obtain ⟨c,hc⟩: ∃c,c=Lib.ctz 32 x:=⟨_,rfl⟩
 rw [←hc] at hcell key hi HE hk
 obtain ⟨idx,hidx⟩: ∃i,i=2^c*125613361%4294967296/134217728:=⟨_,rfl⟩
 rw [←hidx] at hi hcell key
 have HI:=hid hidx
 clear hlow htab hc hidx hT
 go_enter Tryz.func219,Tryz.ntmps219
 go_wp2_with (simp only [key])
 go_ret
 exact ⟨ret_int (by rw [HE.out]),rfl⟩
theorem norm_zero (neg:Bool) (a0:Option Addr) (c0:Nat) (e:Int) (w:World):
 Calls Tryz.prog 156 #[.bool neg,.slice a0 (limbs 0).length c0,.int .i64 e] w (RetVD w (nrm (sg neg ((0:Nat):Int)) e)):=by
 rw [nrm_sg_zero,limbs_zero]
 go_enter Tryz.func156,Tryz.ntmps156
 go_wp2_with fail
 refine bodyPost_ret (by simp [results,Tryz.results156,go_sem];try rfl) rfl ?_
 exact ⟨_,rfl,⟨none,0,rfl,Ns.nil⟩,below_alloc _ _⟩
theorem normD_any (neg:Bool) (a0:Option Addr) (c0 M:Nat) (e:Int) (w:World) (hN:Ns .u32 w a0 c0 (limbs M)) (hm:(limbs M).length≤1000000) (he: -1000000000≤e∧e≤1000000000) (hT:Tab 1 w):
 Calls Tryz.prog 156 #[.bool neg,.slice a0 (limbs M).length c0,.int .i64 e] w (RetVD w (nrm (sg neg (M:Int)) e)):=by
 by_cases h0:M=0
 ·subst h0;exact norm_zero neg a0 c0 e w
 have hpos:0<M:=by omega
 have hl0:0<(limbs M).length:=(digs_len_pos 4294967296 (by omega) M).2 hpos
 have hlb:(((limbs M).length:Int)==0)=false:=beq_eq_false_iff_ne.2 (by omega)
 have hlast:(limbs M).getD ((limbs M).length-1) 0≠0:=by
  rcases (trim_iff (limbs M)).1 (limbs_trim M) with h|h
  ·omega
  ·exact h
 have LL:=hid (limbs_lim M)
 have TW:=hid (tw_limbs M)
 obtain ⟨b0,o0,rfl,hc0⟩:=hN.2.2 hl0
 have HN:=hid hN
 have HT:=hid hT
 have yb0:=below_alloc w (.cells #[.bool false,.slice none 0 0,.int .i64 0] 67)
 have zR0:QL 67 (w.alloc (.cells #[.bool false,.slice none 0 0,.int .i64 0] 67)) w.heap.size false (.slice none 0 0) 0:=QL.made rfl
 have hcap:=hN.1
 have hcap2:=hN.2.1
 unfold maxLen at hcap2
 have RR:=hid (fun w h (hk:tw M≤4294967296000)=>right_any (some ⟨b0,o0,none⟩) c0 M (tw M) w h (by omega) hk)
 have TZ:=hid (fun x h1 h2 w h=>tz32_any x h1 h2 w h)
 have ND:=hid (nrm_sg neg M e hpos)
 have SG:=hid (sg_od_lt neg M hpos)
 obtain ⟨n,hn⟩: ∃n,n=(limbs M).length:=⟨_,rfl⟩
 have HNL:=hid hn
 have hc:=hid (fun i (h:i<n)=>((yb0.cell (p:=⟨b0,o0+i,none⟩) (World.block_lt_of_cell? _ _ (hc0 i (by omega)))).trans (hc0 i (by omega))))
 have HLA:=hid hlast
 rw [←hn] at hlb hcap hm hl0 RR ⊢
 clear hN hT hn h0 hpos hlast hc0
 go_enter Tryz.func156,Tryz.ntmps156
 go_upto_block 0 with fail
 go_cut [7] (fun s7 wx=> ∃i:Nat,s7=.int .i64 (32*(i:Int))∧i<n∧(limbs M).getD i 0≠0∧(∀j,j<i→(limbs M).getD j 0=0)∧wx=w.alloc (.cells #[.bool false,.slice none 0 0,.int .i64 0] 67))
 case first=>
  go_wp2_with fail
  go_loop [7] (fun s7=> ∃i:Nat,s7=.int .i64 (32*(i:Int))∧i<n∧(∀j,j<i→(limbs M).getD j 0=0)) (fun s7=>(32*n-(intOf s7).toNat))
  case atStart=>exact ⟨0,rfl,hl0,fun j hj=>by omega⟩
  case round=>
   obtain ⟨i,rfl,hi,hz⟩:=hrel
   have hcell:=hc.out i hi
   unfold lb at hcell
   obtain ⟨x,hx⟩: ∃x,x=(limbs M).getD i 0:=⟨_,rfl⟩
   rw [←hx] at hcell
   have e1:32*(i:Int)/32=(i:Int):=by omega
   have HX:=hid hx
   have HZ:=hid hz
   clear hx hz
   by_cases hx0:x=0
   ·subst hx0
    have hin:i+1<n:=by
     rcases Nat.lt_or_ge (i+1) n with h|h
     ·exact h
     ·have:i=n-1:=by omega
      have h9:=HX.out
      rw [this,HNL.out] at h9
      exact absurd h9.symm HLA.out
    go_wp2_with fail
    go_round
    case rel=>exact ⟨i+1,by rw [show 32*(i:Int)+32=32*((i+1:Nat):Int) by omega],hin,fun j hj=>by
     by_cases hji:j=i
     ·rw [hji,←HX.out]
     ·exact HZ.out j (by omega)⟩
    case measure=>simp [intOf];omega
   ·have hxb:((x:Int)==0)=false:=beq_eq_false_iff_ne.2 (by omega)
    have HX0:=hid hx0
    clear hx0
    go_wp2_with fail
    go_meet
    exact ⟨i,rfl,hi,by rw [←HX.out];exact HX0.out,HZ.out,rfl⟩
 case rest=>
  obtain ⟨i,rfl,hi,hx0,hz,rfl⟩:=hcut
  have hcell:=hc.out i hi
  unfold lb at hcell
  obtain ⟨x,hx⟩: ∃x,x=(limbs M).getD i 0:=⟨_,rfl⟩
  rw [←hx] at hcell hx0
  have hx1:x<4294967296:=by rw [hx];exact LL.out.getD (by omega) i
  have e1:32*(i:Int)/32=(i:Int):=by omega
  have htw:tw M=32*i+tw x:=TW.out i x (by rw [←HNL.out];exact hi) hz hx.symm hx0
  have ht32:=(ctz_tw x hx0 hx1).2
  have TZx:=hid (fun w h=>TZ.out x hx1 hx0 w h)
  obtain ⟨tM,htM⟩: ∃t,t=tw M:=⟨_,rfl⟩
  obtain ⟨tx,htx⟩: ∃t,t=tw x:=⟨_,rfl⟩
  rw [←htM] at RR ND htw
  rw [←htx] at TZx htw ht32
  have e2:32*(i:Int)+(tx:Int)=(tM:Int):=by omega
  have hMo:M/2^tM=od M:=by rw [htM];rfl
  have RRM:=hid (fun w h=>RR.out w h (by omega))
  rw [hMo] at RRM
  have hcapM:=hid hcap
  clear hx0 hz hx TW htM htx hMo RR TZ htw
  go_upto_region 8 with (first
   |(go_at_call 219;(with_reducible refine (TZx.out _ (HT.out.below yb0)).mono ?_);rintro en w1 ⟨rfl,rfl⟩)
   |(go_at_call 213;(with_reducible refine (RRM.out _ (HN.out.below yb0)).mono ?_);rintro en w2 ⟨a2,rfl,hN2,hb2⟩))
  have zR:=zR0.below hb2
  have yb2:=below_trans yb0 hb2
  obtain ⟨⟨k0,k1,f0,f1,hs2⟩,k2,f2⟩:=id zR
  go_wp2_with fail
  refine bodyPost_ret (by simp [results,Tryz.results156,go_sem,k0,k1,k2];try rfl) rfl ?_
  rw [ND.out]
  refine ⟨_,rfl,⟨a2,(limbs (od M)).length,?_,?_⟩,((yb2.setCell (by first|omega|(simp;done)|(simp;omega)) _).setCell (by first|omega|(simp;done)|(simp;omega)) _).setCell (by first|omega|(simp;done)|(simp;omega)) _⟩
  ·simp only [SG.out.1,SG.out.2]
  ·simp only [SG.out.2]
   exact hN2.set3 zR (by intro x h;cases h) _ _ _
end Go.Proofs.YtfphmlmgjhebjaaGreatDoor
namespace Go.Ulp
open Go.RowKit
theorem or_hidden (f:Int) (h0:0≤f) (h1:f<4503599627370496):bits .or .u64 f 4503599627370496=f+4503599627370496:=by
 rw [bits_comm_or f _ h0 (by omega) (by omega) (by omega),or_join52 4503599627370496 f (by omega) (by omega) h0 (by omega) (by omega) h1];omega
end Go.Ulp
namespace Go.Proofs.YtfphmlmgjhebjaaGreatDoor
open Go.RowKit Go.Ulp
set_option maxHeartbeats 1000000
set_option maxRecDepth 100000
theorem value_any (x:Int) (h0:0≤x) (h1:x<18446744073709551616) (w:World) (hT:Tab 1 w):
 Calls Tryz.prog 96 #[.int .u64 x] w (RetVD w (fv x)):=by
 have PA:=hid (fun w=>parts_any x h0 h1 w)
 have hfb:=fracOf_bd x
 have heb:=expOf_bd x
 have hmb:=mantOf_bd x
 obtain ⟨m,hm⟩:=Int.eq_ofNat_of_zero_le hmb.1
 have OF:=hid (fun w=>natOf_any m (by omega) w)
 have hml:(limbs m).length≤1000000:=by
  have:(limbs m).length≤2:=(digs_len_le 4294967296 (by omega) m 2).2 (by omega)
  omega
 have hdb:=dexp_bd x
 have NO:=hid (show ∀a c w,Ns .u32 w a c (limbs m)→Tab 1 w→Calls Tryz.prog 156 #[.bool (negB x),.slice a (limbs m).length c,.int .i64 (max (expOf x) 1-1075)] w (RetVD w (fv x)) from fun a c w k t=>by
  have:=normD_any (negB x) a c m (dexp x) w k hml (by omega) t
  unfold fv;rw [hm];exact this)
 have yb0:=below_alloc w (.cells #[.bool false,.slice none 0 0,.int .i64 0] 67)
 have zR0:QL 67 (w.alloc (.cells #[.bool false,.slice none 0 0,.int .i64 0] 67)) w.heap.size false (.slice none 0 0) 0:=QL.made rfl
 have HT:=hid hT
 by_cases hp:0<expOf x
 ·have hor:=or_hidden (fracOf x) hfb.1 hfb.2
  have hmv:fracOf x+4503599627370496=(m:Int):=by
   have:=hm;unfold mantOf at this;rw [if_pos hp] at this;exact this
  generalize fracOf x=fr at *
  generalize negB x=ng at *
  generalize expOf x=ex at *
  generalize fv x=D at *
  clear hT hm hmb hml hdb
  go_enter Tryz.func96,Tryz.ntmps96
  go_wp2_with (first
   |(go_at_call 87;(with_reducible refine (PA.out _).mono ?_);rintro en w1 ⟨rfl,rfl⟩)
   |(go_at_call 95;(with_reducible refine (OF.out _).mono ?_);rintro en w2 ⟨a2,rfl,hN2,hb2⟩;have yb2:=below_trans yb0 hb2;have zR2:=zR0.below hb2)
   |(go_at_call 156;(with_reducible refine (NO.out _ _ _ hN2 (HT.out.below yb2)).mono ?_);rintro en w3 ⟨v3,rfl,⟨a3,c3,rfl,hN3⟩,hb3⟩;have yb3:=below_trans yb2 hb3;have zR3:=zR2.below hb3;obtain ⟨⟨k0,k1,f0,f1,hs2⟩,k2,f2⟩:=id zR3))
  refine bodyPost_ret (by simp [results,Tryz.results96,go_sem,k0,k1,k2];try rfl) rfl ?_
  exact ⟨_,rfl,⟨a3,c3,rfl,hN3.set3 zR3 (by intro x h;cases h) _ _ _⟩,((yb3.setCell (by first|omega|(simp;done)|(simp;omega)) _).setCell (by first|omega|(simp;done)|(simp;omega)) _).setCell (by first|omega|(simp;done)|(simp;omega)) _⟩
 ·have hmv:fracOf x=(m:Int):=by
   have:=hm;unfold mantOf at this;rw [if_neg hp] at this;exact this
  generalize fracOf x=fr at *
  generalize negB x=ng at *
  generalize expOf x=ex at *
  generalize fv x=D at *
  clear hT hm hmb hml hdb
  subst hmv
  go_enter Tryz.func96,Tryz.ntmps96
  go_wp2_with (first
   |(go_at_call 87;(with_reducible refine (PA.out _).mono ?_);rintro en w1 ⟨rfl,rfl⟩)
   |(go_at_call 95;(with_reducible refine (OF.out _).mono ?_);rintro en w2 ⟨a2,rfl,hN2,hb2⟩;have yb2:=below_trans yb0 hb2;have zR2:=zR0.below hb2)
   |(go_at_call 156;(with_reducible refine (NO.out _ _ _ hN2 (HT.out.below yb2)).mono ?_);rintro en w3 ⟨v3,rfl,⟨a3,c3,rfl,hN3⟩,hb3⟩;have yb3:=below_trans yb2 hb3;have zR3:=zR2.below hb3;obtain ⟨⟨k0,k1,f0,f1,hs2⟩,k2,f2⟩:=id zR3))
  refine bodyPost_ret (by simp [results,Tryz.results96,go_sem,k0,k1,k2];try rfl) rfl ?_
  exact ⟨_,rfl,⟨a3,c3,rfl,hN3.set3 zR3 (by intro x h;cases h) _ _ _⟩,((yb3.setCell (by first|omega|(simp;done)|(simp;omega)) _).setCell (by first|omega|(simp;done)|(simp;omega)) _).setCell (by first|omega|(simp;done)|(simp;omega)) _⟩
end Go.Proofs.YtfphmlmgjhebjaaGreatDoor
