/- ExpoExps: what the proof leans on, part 11 (Rn1). -/
import Derived.Test.YtehhegbkahnhgaaGreatDoorKExpoExps2
import Derived.Test.YtehhegbkahnhgaaGreatDoorKExpoExps6
import Derived.Test.YtehhegbkahnhgaaGreatDoorKExpoExps7
import Derived.Test.YtehhegbkahnhgaaGreatDoorKExpoExps10
set_option linter.unusedVariables false
set_option linter.unusedSimpArgs false
namespace Go.Ulp
def IsLow (c:Int→Int) (l:Int):Prop:= -9218868437227405312≤l∧l<9218868437227405312∧(l= -9218868437227405312∨c l≤0)∧(l+1=9218868437227405312∨0<c (l+1))
def upR (neg:Bool) (mode near high:Int):Bool:=
 if near=0∧mode=0 then decide (high%2=0) else if near=0∧mode=4 then !neg else decide (mode=1∨(mode=3∧neg=true)∨((mode=0∨mode=4)∧0<near))
def tellR (neg:Bool) (r:Int):Int:=if r=0∧neg=true then 9223372036854775808 else ranked r
def ansR (c cm:Int→Int) (cz mode l:Int):Int×Bool:=
 if -9218868437227405312<l∧c l=0 then (ranked l,false) else if upR (decide (cz<0)) mode (cm l) (l+1)=true then (tellR (decide (cz<0)) (l+1),true) else (tellR (decide (cz<0)) l,true)
def rT (s:Nat) (r:Int):Int:=rvs r*pw s
def cR (s:Nat) (V r:Int):Int:=cmpI (rT s r) V
def cM (s:Nat) (V r:Int):Int:=cmpI (2*V) (rT s r+rT s (r+1))
def Rnd (s:Nat) (V mode x:Int) (ch:Bool):Prop:= ∃l,IsLow (cR s V) l∧(x,ch)=ansR (cR s V) (cM s V) (cmpI V 0) mode l
theorem cmpI_le (a b:Int):cmpI a b≤0↔a≤b:=by unfold cmpI;split<;>(try split)<;>omega
theorem cmpI_gt (a b:Int):0<cmpI a b↔b<a:=by unfold cmpI;split<;>(try split)<;>omega
theorem cmpI_lt (a b:Int):cmpI a b<0↔a<b:=by unfold cmpI;split<;>(try split)<;>omega
theorem rT_mono (s:Nat) {a b:Int} (h:a<b):rT s a<rT s b:=(pw_lt s).2 (rvs_mono h)
theorem rT_le (s:Nat) {a b:Int} (h:a≤b):rT s a≤rT s b:=by
 rcases Int.lt_or_eq_of_le h with h|h
 ·exact Int.le_of_lt (rT_mono s h)
 ·rw [h];exact Int.le_refl _
theorem rT_nat (s R:Nat):rT s (R:Int)=((rvi R*2^s:Nat):Int):=by
 unfold rT rvs;rw [if_neg (by omega),Int.natAbs_natCast,pw_nat,Int.natCast_mul]
theorem rT_neg (s:Nat) (r:Int):rT s (-r)= -rT s r:=by unfold rT;rw [rvs_neg,Int.neg_mul]
theorem rT_zero (s:Nat):rT s 0=0:=by unfold rT;rw [rvs_zero,Int.zero_mul]
theorem low_uniq {s:Nat} {V l m:Int} (h:IsLow (cR s V) l) (k:IsLow (cR s V) m):l=m:=by
 have key: ∀ {l m:Int},IsLow (cR s V) l→IsLow (cR s V) m→ ¬l<m:=by
  intro l m h k hlt
  obtain ⟨h0,h1,h2,h3⟩:=h
  obtain ⟨k0,k1,k2,k3⟩:=k
  have a1:0<cR s V (l+1):=by rcases h3 with h3|h3
                             ·omega
                             ·exact h3
  have a2:cR s V m≤0:=by rcases k2 with k2|k2
                         ·omega
                         ·exact k2
  have b1:=(cmpI_gt _ _).1 a1
  have b2:=(cmpI_le _ _).1 a2
  have b3:=rT_le s (show l+1≤m by omega)
  omega
 have:=key h k
 have:=key k h
 omega
theorem Rnd.uniq {s:Nat} {V mode x y:Int} {ch dh:Bool} (h:Rnd s V mode x ch) (k:Rnd s V mode y dh):x=y∧ch=dh:=by
 obtain ⟨l,h1,h2⟩:=h
 obtain ⟨m,k1,k2⟩:=k
 have e:=low_uniq h1 k1
 subst e
 rw [←k2] at h2
 exact Prod.mk.inj h2
theorem Rnd.same {s t:Nat} {V U mode x:Int} {ch:Bool} (h:Rnd s V mode x ch) (h1: ∀r,cR s V r=cR t U r) (h2: ∀r,cM s V r=cM t U r) (h3:cmpI V 0=cmpI U 0):Rnd t U mode x ch:=by
 obtain ⟨l,a,b⟩:=h
 have e1:cR s V=cR t U:=funext h1
 have e2:cM s V=cM t U:=funext h2
 rw [e1] at a
 rw [e1,e2,h3] at b
 exact ⟨l,a,b⟩
def upN (neg odd:Bool) (half mode:Int):Bool:=if mode=1 then !neg else if mode=2 then neg else if mode=3 then false else if mode=4 then decide (0≤half) else decide (0<half∨(half=0∧odd=true))
def overA (neg:Bool) (mode:Int):Bool:=decide (mode=0∨mode=4∨(mode=1∧neg=false)∨(mode=2∧neg=true))
def sgb (neg:Bool):Int:=if neg then 9223372036854775808 else 0
def capX (neg:Bool) (mode:Int) (R:Int):Int:=if 9218868437227405312≤R then (if overA neg mode=true then 9218868437227405312 else 9218868437227405311)+sgb neg else R+sgb neg
def capC (R:Int) (ch:Bool):Bool:=if 9218868437227405312≤R then true else ch
theorem rvi_top (R:Nat) (h:9218868437227405312≤R):rvi 9218868437227405312≤rvi R:=by
 rcases Nat.lt_or_eq_of_le h with h|h
 ·exact Nat.le_of_lt (rvi_mono h)
 ·rw [h];exact Nat.le_refl _
theorem up_pos (near mode R:Int) (h0:0≤mode) (h1:mode≤4):upR false mode near (R+1)=upN false (decide (R%2=1)) near mode:=by
 have:mode=0∨mode=1∨mode=2∨mode=3∨mode=4:=by omega
 unfold upR upN
 rcases this with rfl|rfl|rfl|rfl|rfl
 ·by_cases h:near=0
  ·subst h;simp;omega
  ·simp [h]
 ·simp
 ·simp
 ·simp
 ·by_cases h:near=0
  ·subst h;simp
  ·simp [h];omega
theorem up_neg (near mode R:Int) (h0:0≤mode) (h1:mode≤4):upR true mode (-near) (-R)=!upN true (decide (R%2=1)) near mode:=by
 have:mode=0∨mode=1∨mode=2∨mode=3∨mode=4:=by omega
 rw [Bool.eq_iff_iff,Bool.not_eq_true']
 unfold upR upN
 rcases this with rfl|rfl|rfl|rfl|rfl
 ·by_cases h:near=0
  ·subst h
   rcases Int.emod_two_eq R with e|e
   ·have: -R%2=0:=by omega
    simp [e,this]
   ·have: ¬ -R%2=0:=by omega
    simp [e,this]
  ·have: ¬ -near=0:=by omega
   simp [h,this];omega
 ·simp
 ·simp
 ·simp
 ·by_cases h:near=0
  ·subst h;simp
  ·have: ¬ -near=0:=by omega
   simp [h,this]
theorem up_over_pos {odd:Bool} {near mode:Int} (h0:0≤mode) (h1:mode≤4) (h:upN false odd near mode=true):overA false mode=true:=by
 have:mode=0∨mode=1∨mode=2∨mode=3∨mode=4:=by omega
 rcases this with rfl|rfl|rfl|rfl|rfl<;>simp [upN,overA] at h ⊢
theorem up_over_neg {odd:Bool} {near mode:Int} (h0:0≤mode) (h1:mode≤4) (h:upN true odd near mode=true):overA true mode=true:=by
 have:mode=0∨mode=1∨mode=2∨mode=3∨mode=4:=by omega
 rcases this with rfl|rfl|rfl|rfl|rfl<;>simp [upN,overA] at h ⊢
theorem cmpI_neg_neg (a b:Int):cmpI (-a) (-b)= -cmpI a b:=by unfold cmpI;split<;>split<;>(try split)<;>(try split)<;>omega
theorem cmpI_shift (a b c:Int):cmpI (a+c) (b+c)=cmpI a b:=by unfold cmpI;split<;>split<;>(try split)<;>(try split)<;>omega
theorem ranked_pos (r:Int) (h:0≤r):ranked r=r:=by unfold ranked;rw [if_neg (by omega)]
theorem ranked_negv (r:Int) (h:r<0):ranked r=9223372036854775808+ -r:=by unfold ranked;rw [if_pos h]
theorem tell_pos (r:Int) (h:0≤r):tellR false r=r:=by unfold tellR;rw [if_neg (by simp),ranked_pos r h]
theorem tell_neg (r:Int) (h:r≤0):tellR true r=9223372036854775808+ -r:=by
 unfold tellR
 by_cases h0:r=0
 ·subst h0;rw [if_pos ⟨rfl,rfl⟩];rfl
 ·rw [if_neg (fun h=>h0 h.1),ranked_negv r (by omega)]
theorem rnd_core_pos (s R t P rest:Nat) (mode:Int) (h0:rvi R*2^s=t) (h1:rvi (R+1)*2^s=t+P) (hr:rest<P) (m0:0≤mode) (m1:mode≤4) (Rr:Int)
 (hR:Rr=if rest≠0∧upN false (decide ((R:Int)%2=1)) (cmpI (2*(rest:Int)) P) mode=true then (R:Int)+1 else R):
 Rnd s ((t+rest:Nat):Int) mode (capX false mode Rr) (capC Rr (decide (rest≠0))):=by
 have T0:rT s (R:Int)=(t:Int):=by rw [rT_nat,h0]
 have T1:rT s ((R:Int)+1)=(t:Int)+P:=by rw [show (R:Int)+1=((R+1:Nat):Int) by omega,rT_nat,h1];omega
 have cz:decide (cmpI ((t+rest:Nat):Int) 0<0)=false:=decide_eq_false (by rw [cmpI_lt];omega)
 by_cases hlt:R<9218868437227405312
 ·refine ⟨R,⟨by omega,by omega,.inr ?_,.inr ?_⟩,?_⟩
  ·unfold cR;rw [T0,cmpI_le];omega
  ·unfold cR;rw [T1,cmpI_gt];omega
  ·unfold ansR
   by_cases hz:rest=0
   ·subst hz
    rw [if_neg (by simp)] at hR
    subst hR
    rw [if_pos ⟨by omega,by unfold cR;rw [T0,cmpI_eq_zero];rfl⟩]
    unfold capX capC
    rw [if_neg (by omega),if_neg (by omega),ranked_pos _ (by omega)];simp [sgb]
   ·rw [if_neg (fun h=>by have:=h.2;unfold cR at this;rw [T0,cmpI_eq_zero] at this;omega),cz]
    have en:cM s ((t+rest:Nat):Int) R=cmpI (2*(rest:Int)) P:=by
     unfold cM;rw [T0,T1,←cmpI_shift (2*(rest:Int)) P (2*(t:Int))];congr 1<;>omega
    rw [en,up_pos _ _ _ m0 m1]
    by_cases hu:upN false (decide ((R:Int)%2=1)) (cmpI (2*(rest:Int)) P) mode=true
    ·rw [if_pos ⟨hz,hu⟩] at hR
     subst hR
     rw [if_pos hu,tell_pos _ (by omega)]
     unfold capX capC
     by_cases ho:(9218868437227405312:Int)≤R+1
     ·rw [if_pos ho,if_pos ho,if_pos (up_over_pos m0 m1 hu)];simp [sgb];omega
     ·rw [if_neg ho,if_neg ho];simp [sgb,hz]
    ·rw [if_neg (fun h=>hu h.2)] at hR
     subst hR
     rw [if_neg hu,tell_pos _ (by omega)]
     unfold capX capC
     rw [if_neg (by omega),if_neg (by omega)];simp [sgb,hz]
 ·have g1:=rvi_top R (by omega)
  have g2:rvi 9218868437227405311<rvi 9218868437227405312:=rvi_mono (by omega)
  have e1:rT s 9218868437227405312≤(t:Int):=by
   rw [←T0];exact rT_le s (by omega)
  have e2:rT s 9218868437227405311<rT s 9218868437227405312:=rT_mono s (by omega)
  refine ⟨9218868437227405311,⟨by omega,by omega,.inr ?_,.inl rfl⟩,?_⟩
  ·unfold cR;rw [cmpI_le];omega
  ·unfold ansR
   rw [if_neg (fun h=>by have:=h.2;unfold cR at this;rw [cmpI_eq_zero] at this;omega),cz]
   have en:cM s ((t+rest:Nat):Int) 9218868437227405311=1:=by
    unfold cM cmpI
    rw [show (9218868437227405311:Int)+1=9218868437227405312 from rfl,if_neg (by omega),if_pos (by omega)]
   rw [en,show (9218868437227405311:Int)+1=9218868437227405312 from rfl,tell_pos _ (by omega),tell_pos _ (by omega)]
   have hb:(9218868437227405312:Int)≤Rr:=by subst hR;split<;>omega
   unfold capX capC
   rw [if_pos hb,if_pos hb]
   have:upR false mode 1 9218868437227405312=overA false mode:=by
    have:mode=0∨mode=1∨mode=2∨mode=3∨mode=4:=by omega
    rcases this with rfl|rfl|rfl|rfl|rfl<;>simp [upR,overA]
   rw [this]
   simp only [sgb]
   split<;>simp
theorem rnd_core_neg (s R t P rest:Nat) (mode:Int) (h0:rvi R*2^s=t) (h1:rvi (R+1)*2^s=t+P) (hr:rest<P) (hpos:0<t+rest) (m0:0≤mode) (m1:mode≤4) (Rr:Int)
 (hR:Rr=if rest≠0∧upN true (decide ((R:Int)%2=1)) (cmpI (2*(rest:Int)) P) mode=true then (R:Int)+1 else R):
 Rnd s (-((t+rest:Nat):Int)) mode (capX true mode Rr) (capC Rr (decide (rest≠0))):=by
 have T0:rT s (-(R:Int))= -(t:Int):=by rw [rT_neg,rT_nat,h0]
 have T1:rT s (-((R:Int)+1))= -((t:Int)+P):=by rw [rT_neg,show (R:Int)+1=((R+1:Nat):Int) by omega,rT_nat,h1];omega
 have cz:decide (cmpI (-((t+rest:Nat):Int)) 0<0)=true:=decide_eq_true (by rw [cmpI_lt];omega)
 by_cases hlt:R<9218868437227405312
 ·by_cases hz:rest=0
  ·subst hz
   rw [if_neg (by simp)] at hR
   subst hR
   have hRp:0<R:=by
    rcases Nat.eq_zero_or_pos R with e|e
    ·subst e;rw [rvi_zero] at h0;omega
    ·exact e
   have T2:=rT_mono s (show -(R:Int)< -(R:Int)+1 by omega)
   refine ⟨-R,⟨by omega,by omega,.inr ?_,.inr ?_⟩,?_⟩
   ·unfold cR;rw [T0,cmpI_le];omega
   ·unfold cR;rw [cmpI_gt];omega
   ·unfold ansR
    rw [if_pos ⟨by omega,by unfold cR;rw [T0,cmpI_eq_zero];omega⟩]
    unfold capX capC
    rw [if_neg (by omega),if_neg (by omega),ranked_negv _ (by omega)];simp [sgb];omega
  ·refine ⟨-((R:Int)+1),⟨by omega,by omega,.inr ?_,.inr ?_⟩,?_⟩
   ·unfold cR;rw [T1,cmpI_le];omega
   ·unfold cR;rw [show -((R:Int)+1)+1= -(R:Int) by omega,T0,cmpI_gt];omega
   ·unfold ansR
    rw [if_neg (fun h=>by have:=h.2;unfold cR at this;rw [T1,cmpI_eq_zero] at this;omega),cz]
    have en:cM s (-((t+rest:Nat):Int)) (-((R:Int)+1))= -cmpI (2*(rest:Int)) P:=by
     unfold cM
     rw [show -((R:Int)+1)+1= -(R:Int) by omega,T0,T1,←cmpI_neg_neg,←cmpI_shift (-(2*(rest:Int))) (-(P:Int)) (-(2*(t:Int)))];congr 1<;>omega
    rw [en,show -((R:Int)+1)+1= -(R:Int) by omega,up_neg _ _ _ m0 m1,tell_neg _ (by omega),tell_neg _ (by omega)]
    by_cases hu:upN true (decide ((R:Int)%2=1)) (cmpI (2*(rest:Int)) P) mode=true
    ·rw [if_pos ⟨hz,hu⟩] at hR
     subst hR
     rw [hu,if_neg (by simp)]
     unfold capX capC
     by_cases ho:(9218868437227405312:Int)≤R+1
     ·rw [if_pos ho,if_pos ho,if_pos (up_over_neg m0 m1 hu)];simp [sgb];omega
     ·rw [if_neg ho,if_neg ho];simp [sgb,hz];omega
    ·rw [if_neg (fun h=>hu h.2)] at hR
     subst hR
     rw [if_pos (by simp [hu])]
     unfold capX capC
     rw [if_neg (by omega),if_neg (by omega)];simp [sgb,hz];omega
 ·have e1:rT s (-(R:Int))≤rT s (-9218868437227405312):=rT_le s (by omega)
  have e2:rT s (-9218868437227405312)<rT s (-9218868437227405311):=rT_mono s (by omega)
  refine ⟨-9218868437227405312,⟨by omega,by omega,.inl rfl,.inr ?_⟩,?_⟩
  ·unfold cR;rw [show -(9218868437227405312:Int)+1= -9218868437227405311 from rfl,cmpI_gt];omega
  ·unfold ansR
   rw [if_neg (fun h=>by have:=h.1;omega),cz]
   have en:cM s (-((t+rest:Nat):Int)) (-9218868437227405312)= -1:=by
    unfold cM cmpI
    rw [show -(9218868437227405312:Int)+1= -9218868437227405311 from rfl,if_pos (by omega)]
   rw [en,show -(9218868437227405312:Int)+1= -9218868437227405311 from rfl,tell_neg _ (by omega),tell_neg _ (by omega)]
   have hb:(9218868437227405312:Int)≤Rr:=by subst hR;split<;>omega
   unfold capX capC
   rw [if_pos hb,if_pos hb]
   have:upR true mode (-1) (-9218868437227405311)=!overA true mode:=by
    have:mode=0∨mode=1∨mode=2∨mode=3∨mode=4:=by omega
    rcases this with rfl|rfl|rfl|rfl|rfl<;>simp [upR,overA]
   rw [this]
   cases overA true mode<;>simp [sgb]
theorem rvi_parts (h q:Nat) (hq:q<9007199254740992) (hh:h=0∨4503599627370496≤q):rvi (h*4503599627370496+q)=q*2^h∧rvi (h*4503599627370496+q+1)=(q+1)*2^h:=by
 have key:rvi (h*4503599627370496+q)=q*2^h:=by
  unfold rvi
  by_cases h1:h*4503599627370496+q<4503599627370496
  ·rw [if_pos h1,show h=0 by omega];omega
  ·rw [if_neg h1]
   have:4503599627370496≤q:=by omega
   rw [show (h*4503599627370496+q)/4503599627370496-1=h by omega,show (h*4503599627370496+q)%4503599627370496+4503599627370496=q by omega]
 refine ⟨key,?_⟩
 rw [rvi_succ,key,Nat.succ_mul]
 congr 2
 omega
def cutN (neg:Bool) (M:Nat) (j mode:Int):Nat:=
 if j≤0 then M*2^(-j).toNat else if M%2^j.toNat≠0∧upN neg (decide (((M/2^j.toNat:Nat):Int)%2=1)) (cmpI ((M%2^j.toNat:Nat):Int) ((2^(j.toNat-1):Nat):Int)) mode=true then M/2^j.toNat+1 else M/2^j.toNat
def cutC (M:Nat) (j:Int):Bool:=if j≤0 then false else decide (M%2^j.toNat≠0)
def numK (M:Nat) (e:Int):Int:=max ((bl M:Int)+e-53) (-1074)
def numR (neg:Bool) (M:Nat) (e mode:Int):Int:=if M=0 then 0 else (numK M e+1074)*4503599627370496+cutN neg M (numK M e-e) mode
def numX (neg:Bool) (M:Nat) (e mode:Int):Int:=capX neg mode (numR neg M e mode)
def numC (neg:Bool) (M:Nat) (e mode:Int):Bool:=capC (numR neg M e mode) (cutC M (numK M e-e))
theorem rnd_core (neg:Bool) (s R t P rest:Nat) (mode:Int) (h0:rvi R*2^s=t) (h1:rvi (R+1)*2^s=t+P) (hr:rest<P) (hpos:neg=true→0<t+rest) (m0:0≤mode) (m1:mode≤4) (Rr:Int)
 (hR:Rr=if rest≠0∧upN neg (decide ((R:Int)%2=1)) (cmpI (2*(rest:Int)) P) mode=true then (R:Int)+1 else R):
 Rnd s (sg neg ((t+rest:Nat):Int)) mode (capX neg mode Rr) (capC Rr (decide (rest≠0))):=by
 cases neg
 ·exact rnd_core_pos s R t P rest mode h0 h1 hr m0 m1 Rr hR
 ·exact rnd_core_neg s R t P rest mode h0 h1 hr (hpos rfl) m0 m1 Rr hR
theorem mode_half (x y E:Nat):cmpI (2*((x*2^E:Nat):Int)) ((2*y*2^E:Nat):Int)=cmpI (x:Int) (y:Int):=by
 rw [←cmpI_pw (x:Int) (y:Int) (E+1),pw_nat,Nat.pow_succ]
 have e1:2*((x*2^E:Nat):Int)=((x*(2^E*2):Nat):Int):=by rw [←Nat.mul_assoc];omega
 have e2:((2*y*2^E:Nat):Int)=((y*(2^E*2):Nat):Int):=by congr 1;rw [←Nat.mul_assoc,Nat.mul_assoc 2,Nat.mul_comm 2]
 rw [e1,e2,Int.natCast_mul x,Int.natCast_mul y]
theorem number_rnd (neg:Bool) (M:Nat) (e mode:Int) (s:Nat) (m0:0≤mode) (m1:mode≤4) (hz:M=0→neg=false) (hs:0≤e+1074+s):
 Rnd s (sg neg ((M*2^(e+1074+s).toNat:Nat):Int)) mode (numX neg M e mode) (numC neg M e mode):=by
 by_cases hM:M=0
 ·have:=hz hM
  subst hM;subst this
  have h:=rnd_core_pos s 0 0 (2^s) 0 mode (by rw [rvi_zero,Nat.zero_mul]) (by rw [show rvi (0+1)=1 by decide,Nat.one_mul,Nat.zero_add]) (Nat.two_pow_pos s) m0 m1 0 (by simp)
  have e1:numR false 0 e mode=0:=by unfold numR;rw [if_pos rfl]
  have e2:cutC 0 (numK 0 e-e)=decide ((0:Nat)≠0):=by unfold cutC;split<;>simp
  unfold numX numC
  rw [e1,e2,Nat.zero_mul]
  exact h
 ·have b1:=lt_bl M
  have b2:=pow_bl M (by omega)
  have b3:=(bl_pos M).2 (by omega)
  obtain ⟨k,hk⟩: ∃k,k=numK M e:=⟨_,rfl⟩
  have hk2:=hk
  unfold numK at hk2
  obtain ⟨h,hh⟩: ∃h:Nat,(h:Int)=k+1074:=⟨(k+1074).toNat,by omega⟩
  obtain ⟨E,hE⟩: ∃E,E=(e+1074+s).toNat:=⟨_,rfl⟩
  have hRe:numR neg M e mode=(h:Int)*4503599627370496+cutN neg M (k-e) mode:=by unfold numR;rw [if_neg hM,←hk,←hh]
  have hpow:0<2^s:=Nat.two_pow_pos s
  have core: ∀q rest:Nat,q<9007199254740992→(h=0∨4503599627370496≤q)→M*2^E=q*2^(h+s)+rest→rest<2^(h+s)→cutC M (k-e)=decide (rest≠0)→
   (cutN neg M (k-e) mode:Int)=(if rest≠0∧upN neg (decide ((q:Int)%2=1)) (cmpI (2*(rest:Int)) ((2^(h+s):Nat):Int)) mode=true then (q:Int)+1 else q)→
   Rnd s (sg neg ((M*2^E:Nat):Int)) mode (numX neg M e mode) (numC neg M e mode):=by
   intro q rest hq hqh hA hr hC hN
   obtain ⟨r1,r2⟩:=rvi_parts h q hq hqh
   have par:(((h*4503599627370496+q:Nat):Int)%2=1)=((q:Int)%2=1):=by rw [eq_iff_iff];omega
   have g:=rnd_core neg s (h*4503599627370496+q) (q*2^(h+s)) (2^(h+s)) rest mode (by rw [r1,Nat.pow_add,Nat.mul_assoc]) (by rw [r2,Nat.pow_add,Nat.mul_assoc,Nat.succ_mul]) hr (fun _=>by rw [←hA];exact Nat.mul_pos (by omega) (Nat.two_pow_pos E)) m0 m1 (numR neg M e mode) (by
    rw [hRe,hN]
    simp only [par]
    split<;>omega)
   rw [hA]
   unfold numX numC
   rw [←hk,hC]
   exact g
  rw [←hE]
  by_cases hj:k-e≤0
  ·obtain ⟨d,hd⟩: ∃d:Nat,(d:Int)= -(k-e):=⟨(-(k-e)).toNat,by omega⟩
   have hd2:(-(k-e)).toNat=d:=by omega
   refine core (M*2^d) 0 ?_ ?_ ?_ (Nat.two_pow_pos _) ?_ ?_
   ·have:M*2^d<2^bl M*2^d:=Nat.mul_lt_mul_of_pos_right b1 (Nat.two_pow_pos d)
    rw [←Nat.pow_add] at this
    exact Nat.lt_of_lt_of_le this (Nat.pow_le_pow_right (by omega) (show bl M+d≤53 by omega))
   ·by_cases h0:h=0
    ·exact .inl h0
    ·right
     have:2^(bl M-1)*2^d≤M*2^d:=Nat.mul_le_mul_right _ b2
     rw [←Nat.pow_add,show bl M-1+d=52 by omega] at this
     exact this
   ·rw [Nat.add_zero,Nat.mul_assoc,←Nat.pow_add];congr 2;omega
   ·unfold cutC;rw [if_pos hj];rfl
   ·unfold cutN;rw [if_pos hj,if_neg (by simp),hd2]
  ·obtain ⟨j,hj2⟩: ∃j:Nat,(j:Int)=k-e:=⟨(k-e).toNat,by omega⟩
   have hj3:(k-e).toNat=j:=by omega
   have hsum:h+s=j+E:=by omega
   have hP:2^(h+s)=2^j*2^E:=by rw [hsum,Nat.pow_add]
   have hj1:2^j=2*2^(j-1):=by rw [←Nat.pow_succ'];congr 1;omega
   have hEp:0<2^E:=Nat.two_pow_pos E
   have nz:((M%2^j)*2^E≠0)=(M%2^j≠0):=by
    rw [eq_iff_iff]
    constructor
    ·intro h1 h2;rw [h2,Nat.zero_mul] at h1;exact h1 rfl
    ·intro h1 h2
     rcases Nat.mul_eq_zero.1 h2 with h3|h3
     ·exact h1 h3
     ·omega
   refine core (M/2^j) ((M%2^j)*2^E) ?_ ?_ ?_ ?_ ?_ ?_
   ·rw [Nat.div_lt_iff_lt_mul (Nat.two_pow_pos j),show (9007199254740992:Nat)=2^53 by decide,←Nat.pow_add]
    exact Nat.lt_of_lt_of_le b1 (Nat.pow_le_pow_right (by omega) (by omega))
   ·by_cases h0:h=0
    ·exact .inl h0
    ·right
     rw [Nat.le_div_iff_mul_le (Nat.two_pow_pos j),show (4503599627370496:Nat)=2^52 by decide,←Nat.pow_add,show 52+j=bl M-1 by omega]
     exact b2
   ·rw [hP,←Nat.mul_assoc,←Nat.add_mul];congr 1
    rw [Nat.mul_comm];exact (Nat.div_add_mod M (2^j)).symm
   ·rw [hP];exact Nat.mul_lt_mul_of_pos_right (Nat.mod_lt _ (Nat.two_pow_pos j)) hEp
   ·unfold cutC;rw [if_neg hj,hj3];simp only [nz]
   ·unfold cutN;rw [if_neg hj,hj3]
    have em:cmpI (2*(((M%2^j)*2^E:Nat):Int)) ((2^(h+s):Nat):Int)=cmpI ((M%2^j:Nat):Int) ((2^(j-1):Nat):Int):=by
     have hPP:2^j*2^E=2*2^(j-1)*2^E:=by rw [←hj1]
     rw [hP,hPP];exact mode_half (M%2^j) (2^(j-1)) E
    rw [em]
    simp only [nz]
    split<;>omega
def loM (c:Int→Int) (more l:Int):Int:=if (-9218868437227405312<l∧c l=0)∧more<0 then l-1 else l
def nearM (cm:Int→Int) (more l:Int):Int:=if cm l=0 then more else cm l
def negM (cz more:Int):Bool:=decide (cz<0∨(cz=0∧more<0))
def moreAns (c cm:Int→Int) (cz more mode l:Int):Int×Bool:=
 if (-9218868437227405312<l∧c l=0)∧more=0 then (ranked l,false)
 else if upR (negM cz more) mode (nearM cm more (loM c more l)) (loM c more l+1)=true then (tellR (negM cz more) (loM c more l+1),true) else (tellR (negM cz more) (loM c more l),true)
theorem rT_four (s:Nat) (r:Int):rT (s+2) r=4*rT s r:=by
 unfold rT;rw [pw_add,←Int.mul_assoc,show pw 2=4 by decide];omega
theorem cmpI_l {a b:Int} (h:a<b):cmpI a b= -1:=by unfold cmpI;rw [if_pos h]
theorem cmpI_g {a b:Int} (h:b<a):cmpI a b=1:=by unfold cmpI;rw [if_neg (by omega),if_pos h]
theorem cmpI_e {a b:Int} (h:a=b):cmpI a b=0:=(cmpI_eq_zero a b).2 h
theorem near_scale (V S m:Int) (hm:m= -1∨m=0∨m=1):cmpI (2*(4*V+m)) (4*S)=if cmpI (2*V) S=0 then m else cmpI (2*V) S:=by
 rcases Int.lt_trichotomy (2*V) S with h|h|h
 ·rw [cmpI_l h,if_neg (by omega),cmpI_l (by omega)]
 ·rw [cmpI_e h,if_pos rfl]
  rcases hm with rfl|rfl|rfl
  ·exact cmpI_l (by omega)
  ·exact cmpI_e (by omega)
  ·exact cmpI_g (by omega)
 ·rw [cmpI_g h,if_neg (by omega),cmpI_g (by omega)]
theorem more_rnd (s:Nat) (V l more mode:Int) (hl:IsLow (cR s V) l) (hm:more= -1∨more=0∨more=1):
 Rnd (s+2) (4*V+more) mode (moreAns (cR s V) (cM s V) (cmpI V 0) more mode l).1 (moreAns (cR s V) (cM s V) (cmpI V 0) more mode l).2:=by
 obtain ⟨h0,h1,h2,h3⟩:=hl
 have g2:l= -9218868437227405312∨rT s l≤V:=h2.imp id (fun h=>(cmpI_le _ _).1 h)
 have g3:l+1=9218868437227405312∨V<rT s (l+1):=h3.imp id (fun h=>(cmpI_gt _ _).1 h)
 have hc: ∀r,cR s V r=0↔rT s r=V:=fun r=>cmpI_eq_zero _ _
 have ez:decide (cmpI (4*V+more) 0<0)=negM (cmpI V 0) more:=by
  unfold negM;rw [decide_eq_decide,cmpI_lt,cmpI_lt,cmpI_eq_zero];omega
 have en: ∀r,cM (s+2) (4*V+more) r=nearM (cM s V) more r:=by
  intro r
  show cmpI (2*(4*V+more)) (rT (s+2) r+rT (s+2) (r+1))=if cmpI (2*V) (rT s r+rT s (r+1))=0 then more else cmpI (2*V) (rT s r+rT s (r+1))
  rw [rT_four,rT_four,←Int.mul_add]
  exact near_scale _ _ _ hm
 by_cases hs:(-9218868437227405312<l∧cR s V l=0)∧more<0
 ·obtain ⟨⟨k0,k1⟩,k2⟩:=hs
  have k3:=(hc l).1 k1
  have k4:=rT_mono s (show l-1<l by omega)
  have elo:loM (cR s V) more l=l-1:=by unfold loM;rw [if_pos ⟨⟨k0,k1⟩,k2⟩]
  refine ⟨l-1,⟨by omega,by omega,.inr ?_,.inr ?_⟩,?_⟩
  ·unfold cR;rw [cmpI_le,rT_four];omega
  ·unfold cR;rw [cmpI_gt,rT_four,show l-1+1=l by omega];omega
  ·unfold ansR moreAns
   have n1: ¬((-9218868437227405312<l∧cR s V l=0)∧more=0):=fun h=>by omega
   have n2: ¬(-9218868437227405312<l-1∧cR (s+2) (4*V+more) (l-1)=0):=fun h=>by have:=h.2;unfold cR at this;rw [cmpI_eq_zero,rT_four] at this;omega
   rw [if_neg n1,if_neg n2,ez,en,elo]
 ·have elo:loM (cR s V) more l=l:=by unfold loM;rw [if_neg hs]
  have hs2: -9218868437227405312<l→rT s l=V→0≤more:=fun a b=>by
   rcases Int.lt_or_le more 0 with h|h
   ·exact absurd ⟨⟨a,(hc l).2 b⟩,h⟩ hs
   ·exact h
  refine ⟨l,⟨h0,h1,?_,?_⟩,?_⟩
  ·rcases g2 with g2|g2
   ·exact .inl g2
   ·by_cases hL:l= -9218868437227405312
    ·exact .inl hL
    ·right;unfold cR;rw [cmpI_le,rT_four];have:=hs2 (by omega);omega
  ·rcases g3 with g3|g3
   ·exact .inl g3
   ·right;unfold cR;rw [cmpI_gt,rT_four];omega
  ·unfold ansR moreAns
   rw [ez,en,elo]
   have:(-9218868437227405312<l∧cR (s+2) (4*V+more) l=0)↔((-9218868437227405312<l∧cR s V l=0)∧more=0):=by
    rw [hc];unfold cR;rw [cmpI_eq_zero,rT_four];omega
   by_cases hq:(-9218868437227405312<l∧cR s V l=0)∧more=0
   ·rw [if_pos (this.2 hq),if_pos hq]
   ·rw [if_neg (fun h=>hq (this.1 h)),if_neg hq]
def Far (b V d:Int):Prop:=b=V∨V+d<b∨b+d<V
theorem far_cmp {b V d side:Int} (h:Far b V d) (hd:0<d) (hs:side= -1∨side=1):cmpI b (V+side*d)=cmpI (4*b) (4*V+side):=by
 unfold cmpI
 rcases hs with rfl|rfl
 ·rcases h with h|h|h<;>split<;>(try split)<;>(try split)<;>(try split)<;>omega
 ·rcases h with h|h|h<;>split<;>(try split)<;>(try split)<;>(try split)<;>omega
theorem cmpI_swap (a b:Int):cmpI a b= -cmpI b a:=by unfold cmpI;split<;>split<;>(try split)<;>(try split)<;>omega
theorem far_cmp2 {b V d side:Int} (h:Far b (2*V) (2*d)) (hd:0<d) (hs:side= -1∨side=1):cmpI (2*(V+side*d)) b=cmpI (2*(4*V+side)) (4*b):=by
 unfold cmpI
 rcases hs with rfl|rfl
 ·rcases h with h|h|h<;>split<;>(try split)<;>(try split)<;>(try split)<;>omega
 ·rcases h with h|h|h<;>split<;>(try split)<;>(try split)<;>(try split)<;>omega
theorem rvi_rep (n:Nat): ∃q h,rvi n=q*2^h∧rvi (n+1)=(q+1)*2^h∧q<9007199254740992:=by
 by_cases hn:n<4503599627370496
 ·have:=rvi_parts 0 n (by omega) (.inl rfl)
  rw [Nat.zero_mul,Nat.zero_add] at this
  exact ⟨n,0,this.1,this.2,by omega⟩
 ·have:=rvi_parts (n/4503599627370496-1) (n%4503599627370496+4503599627370496) (by omega) (.inr (by omega))
  rw [show (n/4503599627370496-1)*4503599627370496+(n%4503599627370496+4503599627370496)=n by omega] at this
  exact ⟨_,_,this.1,this.2,by omega⟩
theorem rT_rep (s:Nat) (r:Int): ∃q h neg,rT s r=sg neg ((q*2^(h+s):Nat):Int)∧q<9007199254740992:=by
 obtain ⟨q,h,h1,_,h3⟩:=rvi_rep r.natAbs
 rcases Int.le_total 0 r with hr|hr
 ·refine ⟨q,h,false,?_,h3⟩
  have e:r=(r.natAbs:Int):=by omega
  conv=>lhs;rw [e]
  rw [rT_nat,h1,Nat.pow_add,Nat.mul_assoc];rfl
 ·refine ⟨q,h,true,?_,h3⟩
  have e:r= -(r.natAbs:Int):=by omega
  conv=>lhs;rw [e]
  rw [rT_neg,rT_nat,h1,Nat.pow_add,Nat.mul_assoc];rfl
theorem rT_mid_rep (s:Nat) (r:Int): ∃q h neg,rT s r+rT s (r+1)=sg neg (((2*q+1)*2^(h+s):Nat):Int)∧q<9007199254740992:=by
 by_cases hr:0≤r
 ·obtain ⟨q,h,h1,h2,h3⟩:=rvi_rep r.natAbs
  refine ⟨q,h,false,?_,h3⟩
  have e:r=(r.natAbs:Int):=by omega
  rw [e,show (r.natAbs:Int)+1=((r.natAbs+1:Nat):Int) by omega,rT_nat,rT_nat,h1,h2,Nat.mul_assoc,Nat.mul_assoc,←Nat.pow_add]
  show _=(((2*q+1)*2^(h+s):Nat):Int)
  rw [←Int.natCast_add,←Nat.add_mul];congr 2;omega
 ·obtain ⟨q,h,h1,h2,h3⟩:=rvi_rep (r+1).natAbs
  refine ⟨q,h,true,?_,h3⟩
  have e1:r+1= -((r+1).natAbs:Int):=by omega
  have e2:r= -(((r+1).natAbs+1:Nat):Int):=by omega
  have e3:rT s r= -((rvi ((r+1).natAbs+1)*2^s:Nat):Int):=by rw [←rT_nat,←rT_neg,←e2]
  have e4:rT s (r+1)= -((rvi (r+1).natAbs*2^s:Nat):Int):=by rw [←rT_nat,←rT_neg,←e1]
  rw [e3,e4,h1,h2,Nat.mul_assoc,Nat.mul_assoc,←Nat.pow_add]
  show _= -(((2*q+1)*2^(h+s):Nat):Int)
  rw [←Int.neg_add,←Int.natCast_add,←Nat.add_mul];congr 3;omega
theorem sg_pw (neg:Bool) (B f k:Nat) (h:k≤f):sg neg ((B*2^f:Nat):Int)=sg neg ((B*2^(f-k):Nat):Int)*pw k:=by
 have e:B*2^f=B*2^(f-k)*2^k:=by rw [Nat.mul_assoc,←Nat.pow_add];congr 2;omega
 rw [e,Int.natCast_mul _ (2^k),pw_nat]
 unfold sg;cases neg<;>simp [Int.neg_mul]
theorem far_bits (n neg:Bool) (B f M E:Nat) (hB:B≤18014398509481984) (hM:0<M) (hE:64≤E):Far (sg n ((B*2^f:Nat):Int)) (sg neg ((M*2^E:Nat):Int)) (pw (E-64)):=by
 have hd:pw (E-63)=2*pw (E-64):=by rw [show E-63=1+(E-64) by omega,pw_add];rfl
 have hp:=pw_pos (E-64)
 by_cases hf:E-63≤f
 ·rw [sg_pw n B f (E-63) hf,sg_pw neg M E (E-63) (by omega)]
  generalize sg n ((B*2^(f-(E-63)):Nat):Int)=x
  generalize sg neg ((M*2^(E-(E-63)):Nat):Int)=y
  rw [hd]
  generalize pw (E-64)=d at hp
  rcases Int.lt_trichotomy x y with h|h|h
  ·right;right
   have:(x+1)*(2*d)≤y*(2*d):=Int.mul_le_mul_of_nonneg_right (by omega) (by omega)
   rw [Int.add_mul] at this;omega
  ·left;rw [h]
  ·right;left
   have:(y+1)*(2*d)≤x*(2*d):=Int.mul_le_mul_of_nonneg_right (by omega) (by omega)
   rw [Int.add_mul] at this;omega
 ·have h1:B*2^f≤18014398509481984*2^(E-64):=Nat.mul_le_mul hB (Nat.pow_le_pow_right (by omega) (by omega))
  have h2:18446744073709551616*2^(E-64)≤M*2^E:=by
   rw [show E=64+(E-64) by omega,Nat.pow_add,show 64+(E-64)-64=E-64 by omega,←Nat.mul_assoc]
   refine Nat.mul_le_mul_right _ ?_
   rw [show (2:Nat)^64=18446744073709551616 by decide];omega
  have h3:0<2^(E-64):=Nat.two_pow_pos _
  rw [pw_nat]
  generalize 2^(E-64)=u at *
  generalize B*2^f=b at *
  generalize M*2^E=v at *
  unfold Far sg
  cases n<;>cases neg<;>simp only [if_true,if_false,Bool.false_eq_true]<;>omega
def besNeg (neg:Bool) (M:Nat) (side:Int):Bool:=if side=0 then neg else if M=0 then decide (side<0) else neg
def besM (neg:Bool) (M:Nat) (side:Int):Nat:=if side=0 then M else if M=0 then 1 else if (decide (0<side) !=neg)=true then M*2^64+1 else M*2^64-1
def besE (M:Nat) (e side:Int):Int:=if side=0 then e else if M=0 then -2000 else e-64
theorem beside_rnd (neg:Bool) (M:Nat) (e side mode:Int) (s:Nat) (m0:0≤mode) (m1:mode≤4) (hz:M=0→neg=false) (hs:64≤e+1074+s) (hs2:930≤s) (hside:side= -1∨side=1):
 Rnd (s+2) (4*sg neg ((M*2^(e+1074+s).toNat:Nat):Int)+side) mode (numX (besNeg neg M side) (besM neg M side) (besE M e side) mode) (numC (besNeg neg M side) (besM neg M side) (besE M e side) mode):=by
 have hs0:side≠0:=by omega
 by_cases hM:M=0
 ·have hn:=hz hM
  subst hM;subst hn
  have h:=number_rnd (besNeg false 0 side) (besM false 0 side) (besE 0 e side) mode s m0 m1 (fun h=>by unfold besM at h;rw [if_neg hs0,if_pos rfl] at h;omega) (by unfold besE;rw [if_neg hs0,if_pos rfl];omega)
  have e1:besE 0 e side= -2000:=by unfold besE;rw [if_neg hs0,if_pos rfl]
  have e2:besM false 0 side=1:=by unfold besM;rw [if_neg hs0,if_pos rfl]
  have e3:besNeg false 0 side=decide (side<0):=by unfold besNeg;rw [if_neg hs0,if_pos rfl]
  rw [e1,e2,e3] at h ⊢
  obtain ⟨d,hd⟩: ∃d:Nat,(d:Int)=s-926:=⟨s-926,by omega⟩
  have ed:(-2000+1074+(s:Int)).toNat=d:=by omega
  have hsd:s=d+926:=by omega
  have hv:sg (decide (side<0)) ((1*2^(-2000+1074+(s:Int)).toNat:Nat):Int)=0+side*pw d:=by
   rw [ed,Nat.one_mul,←pw_nat]
   rcases hside with rfl|rfl<;>simp [sg]
  have h0:sg false ((0*2^(e+1074+s).toNat:Nat):Int)=0:=by rw [Nat.zero_mul];rfl
  rw [hv] at h
  rw [h0]
  have hp:=pw_pos d
  have big: ∀(n:Bool) (B k:Nat),Far (sg n ((B*2^(k+s):Nat):Int)) 0 (2*pw d):=by
   intro n B k
   rcases Nat.eq_zero_or_pos B with hB|hB
   ·subst hB;left;rw [Nat.zero_mul];cases n<;>rfl
   ·have h1:2^(d+2)≤B*2^(k+s):=by
     have:=Nat.mul_le_mul hB (Nat.pow_le_pow_right (n:=2) (by omega) (show d+2≤k+s by omega))
     rwa [Nat.one_mul] at this
    rw [Nat.pow_add] at h1
    have h2:pw d=((2^d:Nat):Int):=rfl
    rw [h2] at hp ⊢
    generalize 2^d=u at *
    generalize B*2^(k+s)=v at *
    unfold Far sg
    cases n<;>simp only [if_true,if_false,Bool.false_eq_true]<;>omega
  refine h.same (fun r=>?_) (fun r=>?_) ?_
  ·obtain ⟨q,k,n,hq,_⟩:=rT_rep s r
   unfold cR
   rw [rT_four]
   refine far_cmp ?_ hp hside
   rw [hq]
   have:=big n q k
   unfold Far at this ⊢;omega
  ·obtain ⟨q,k,n,hq,_⟩:=rT_mid_rep s r
   unfold cM
   rw [rT_four,rT_four,←Int.mul_add]
   refine far_cmp2 ?_ hp hside
   rw [hq]
   exact big n (2*q+1) k
  ·rcases hside with rfl|rfl<;>(unfold cmpI;split<;>(try split)<;>(try split)<;>(try split)<;>omega)
 ·have e1:besE M e side=e-64:=by unfold besE;rw [if_neg hs0,if_neg hM]
  have e3:besNeg neg M side=neg:=by unfold besNeg;rw [if_neg hs0,if_neg hM]
  obtain ⟨E,hE⟩: ∃E,E=(e+1074+s).toNat:=⟨_,rfl⟩
  have hM2:0<besM neg M side:=by
   unfold besM;rw [if_neg hs0,if_neg hM]
   have:M*2^64=M*18446744073709551616:=rfl
   split<;>omega
  have h:=number_rnd neg (besM neg M side) (e-64) mode s m0 m1 (fun h=>by omega) (by omega)
  rw [e1,e3,←hE]
  have ed:(e-64+1074+(s:Int)).toNat=E-64:=by omega
  have hv:sg neg ((besM neg M side*2^(e-64+1074+(s:Int)).toNat:Nat):Int)=sg neg ((M*2^E:Nat):Int)+side*pw (E-64):=by
   rw [ed,pw_nat]
   have hE2:M*2^E=M*2^64*2^(E-64):=by rw [Nat.mul_assoc,←Nat.pow_add];congr 2;omega
   rw [hE2]
   have hbig:1≤M*2^64:=by have:=Nat.mul_le_mul (Nat.one_le_iff_ne_zero.2 hM) (Nat.two_pow_pos 64);omega
   unfold besM;rw [if_neg hs0,if_neg hM]
   generalize M*2^64=x at *
   generalize 2^(E-64)=u at *
   have a1:(x+1)*u=x*u+u:=Nat.succ_mul x u
   have a2:(x-1)*u=x*u-u:=by rw [Nat.sub_mul,Nat.one_mul]
   have a3:u≤x*u:=Nat.le_mul_of_pos_left u hbig
   rcases hside with rfl|rfl<;>cases neg<;>simp only [sg,if_true,if_false,Bool.false_eq_true,show decide ((0:Int)<1)=true from rfl,show decide ((0:Int)< -1)=false from rfl,show (false !=false)=false from rfl,show (true !=false)=true from rfl,show (false !=true)=true from rfl,show (true !=true)=false from rfl]<;>(first|rw [a1]|rw [a2])<;>omega
  rw [hv] at h
  have hp:=pw_pos (E-64)
  refine h.same (fun r=>?_) (fun r=>?_) ?_
  ·obtain ⟨q,k,n,hq,hq2⟩:=rT_rep s r
   unfold cR
   rw [rT_four]
   refine far_cmp ?_ hp hside
   rw [hq]
   exact far_bits n neg q (k+s) M E (by omega) (by omega) (by omega)
  ·obtain ⟨q,k,n,hq,hq2⟩:=rT_mid_rep s r
   unfold cM
   rw [rT_four,rT_four,←Int.mul_add]
   refine far_cmp2 ?_ hp hside
   rw [hq]
   have:=far_bits n neg (2*q+1) (k+s) M (E+1) (by omega) (by omega) (by omega)
   rw [show pw (E+1-64)=2*pw (E-64) by rw [show E+1-64=1+(E-64) by omega,pw_add];rfl] at this
   have e5:sg neg ((M*2^(E+1):Nat):Int)=2*sg neg ((M*2^E:Nat):Int):=by
    rw [show M*2^(E+1)=2*(M*2^E) by rw [Nat.pow_succ,←Nat.mul_assoc,Nat.mul_comm]]
    unfold sg;cases neg<;>simp<;>omega
   rw [←e5];exact this
  ·have h1:18446744073709551616*2^(E-64)≤M*2^E:=by
    rw [show E=64+(E-64) by omega,Nat.pow_add,show 64+(E-64)-64=E-64 by omega,←Nat.mul_assoc]
    refine Nat.mul_le_mul_right _ ?_
    rw [show (2:Nat)^64=18446744073709551616 by decide];omega
   rw [pw_nat] at hp ⊢
   generalize 2^(E-64)=u at *
   generalize M*2^E=v at *
   rcases hside with rfl|rfl<;>cases neg<;>simp only [sg,if_true,if_false,Bool.false_eq_true]<;>(unfold cmpI;split<;>(try split)<;>(try split)<;>(try split)<;>omega)
theorem beside_all (neg:Bool) (M:Nat) (e side mode l:Int) (s:Nat) (m0:0≤mode) (m1:mode≤4) (hz:M=0→neg=false) (hs:64≤e+1074+s) (hs2:930≤s) (hside:side= -1∨side=0∨side=1)
 (hl:IsLow (cR s (sg neg ((M*2^(e+1074+s).toNat:Nat):Int))) l):
 moreAns (cR s (sg neg ((M*2^(e+1074+s).toNat:Nat):Int))) (cM s (sg neg ((M*2^(e+1074+s).toNat:Nat):Int))) (cmpI (sg neg ((M*2^(e+1074+s).toNat:Nat):Int)) 0) side mode l
  =(numX (besNeg neg M side) (besM neg M side) (besE M e side) mode,numC (besNeg neg M side) (besM neg M side) (besE M e side) mode):=by
 have h1:=more_rnd s _ l side mode hl hside
 have h2:Rnd (s+2) (4*sg neg ((M*2^(e+1074+s).toNat:Nat):Int)+side) mode (numX (besNeg neg M side) (besM neg M side) (besE M e side) mode) (numC (besNeg neg M side) (besM neg M side) (besE M e side) mode):=by
  by_cases h:side=0
  ·subst h
   have:=number_rnd neg M e mode (s+2) m0 m1 hz (by omega)
   have e1:besNeg neg M 0=neg:=rfl
   have e2:besM neg M 0=M:=rfl
   have e3:besE M e 0=e:=rfl
   rw [e1,e2,e3]
   have e5:sg neg ((M*2^(e+1074+((s+2:Nat):Int)).toNat:Nat):Int)=4*sg neg ((M*2^(e+1074+s).toNat:Nat):Int)+0:=by
    rw [show (e+1074+((s+2:Nat):Int)).toNat=(e+1074+s).toNat+2 by omega,show ∀k,M*2^(k+2)=4*(M*2^k) from fun k=>by rw [Nat.pow_add,←Nat.mul_assoc,Nat.mul_comm]]
    unfold sg;cases neg<;>simp<;>omega
   rw [e5] at this;exact this
  ·exact beside_rnd neg M e side mode s m0 m1 hz hs hs2 (by omega)
 obtain ⟨a,b⟩:=h1.uniq h2
 exact Prod.ext a b
end Go.Ulp
namespace Go.Proofs.YtehhegbkahnhgaaGreatDoor
open Go.RowKit Go.Ulp
set_option maxHeartbeats 1000000
set_option maxRecDepth 100000
theorem up_any (neg odd:Bool) (half mode:Int) (w:World):
 Calls Tryz.prog 128 #[.bool neg,.bool odd,.int .i64 half,.int .i64 mode] w fun e w'=>e=.returned (.bool (upN neg odd half mode))∧w=w':=by
 by_cases h1:mode=1
 ·subst h1
  go_enter Tryz.func128,Tryz.ntmps128
  go_wp2_with fail
  go_ret
  exact ⟨ret_bool (by simp [upN]),rfl⟩
 by_cases h2:mode=2
 ·subst h2
  go_enter Tryz.func128,Tryz.ntmps128
  go_wp2_with fail
  go_ret
  exact ⟨ret_bool (by simp [upN]),rfl⟩
 by_cases h3:mode=3
 ·subst h3
  go_enter Tryz.func128,Tryz.ntmps128
  go_wp2_with fail
  go_ret
  exact ⟨ret_bool (by simp [upN]),rfl⟩
 by_cases h4:mode=4
 ·subst h4
  go_enter Tryz.func128,Tryz.ntmps128
  go_wp2_with fail
  go_ret
  exact ⟨ret_bool (by simp [upN]),rfl⟩
 have b1:(mode==1)=false:=beq_eq_false_iff_ne.2 h1
 have b2:(mode==2)=false:=beq_eq_false_iff_ne.2 h2
 have b3:(mode==3)=false:=beq_eq_false_iff_ne.2 h3
 have b4:(mode==4)=false:=beq_eq_false_iff_ne.2 h4
 have hu:upN neg odd half mode=decide (0<half∨(half=0∧odd=true)):=by unfold upN;rw [if_neg h1,if_neg h2,if_neg h3,if_neg h4]
 rw [hu]
 clear hu h1 h2 h3 h4
 rcases Int.lt_trichotomy half 0 with h|h|h
 ·have c1:decide (0<half)=false:=decide_eq_false (by omega)
  have c2:(half==0)=false:=beq_eq_false_iff_ne.2 (by omega)
  have hr:decide (0<half∨(half=0∧odd=true))=false:=decide_eq_false (fun h2=>by omega)
  rw [hr]
  clear hr
  go_enter Tryz.func128,Tryz.ntmps128
  go_wp2_with fail
  go_ret
  exact ⟨rfl,rfl⟩
 ·subst h
  have hr:decide ((0:Int)<0∨((0:Int)=0∧odd=true))=odd:=by cases odd<;>rfl
  rw [hr]
  clear hr
  go_enter Tryz.func128,Tryz.ntmps128
  go_wp2_with fail
  go_ret
  exact ⟨rfl,rfl⟩
 ·have c1:decide (0<half)=true:=decide_eq_true h
  have hr:decide (0<half∨(half=0∧odd=true))=true:=decide_eq_true (.inl h)
  rw [hr]
  clear hr
  go_enter Tryz.func128,Tryz.ntmps128
  go_wp2_with fail
  go_ret
  exact ⟨rfl,rfl⟩
theorem natLen_any (a0:Option Addr) (c0 m:Nat) (w:World) (h0:Ns .u32 w a0 c0 (limbs m)) (hm:(limbs m).length≤4294967296):
 Calls Tryz.prog 67 #[.slice a0 (limbs m).length c0] w fun e w'=>e=.returned (.int .i64 (bl m:Int))∧w=w':=by
 by_cases hz:m=0
 ·subst hz
  rw [limbs_zero]
  go_enter Tryz.func67,Tryz.ntmps67
  go_wp2_with fail
  go_ret
  exact ⟨rfl,rfl⟩
 have hpos:0<(limbs m).length:=(digs_len_pos 4294967296 (by omega) m).2 (by omega)
 obtain ⟨s0,hs⟩: ∃s0,(limbs m).length=s0+1:=⟨(limbs m).length-1,by omega⟩
 obtain ⟨top,htop⟩: ∃top,top=(limbs m).getD s0 0:=⟨_,rfl⟩
 have lN:=limbs_lim m
 have btop:top<4294967296:=by rw [htop];exact lN.getD (by omega) _
 have ptop:0<top:=by
  have:=(trim_iff (limbs m)).1 (limbs_trim m)
  rw [hs] at this
  rcases this with h|h
  ·omega
  ·rw [htop];exact Nat.pos_of_ne_zero h
 obtain ⟨b1,o1,rfl,hc1⟩:=h0.2.2 (by omega)
 have k1:w.cell? ⟨b1,o1+s0,none⟩=some (.int .u32 (top:Int)):=by rw [hc1 s0 (by omega),htop];rfl
 have vn:m=lval ((limbs m).take s0)+4294967296^s0*top:=by
  have:=lval_take_succ (limbs m) s0 (by omega)
  rw [List.take_of_length_le (by omega),lval_limbs,←htop] at this
  exact this
 have hb:bl top≤32:=(bl_le top 32).2 (by simpa using btop)
 have LZ:=hid (show ∀w,Calls Tryz.prog 109 #[.int .u32 (top:Int)] w fun e w'=>e=.returned (.int .i64 (32-(bl top:Int)))∧w=w' from fun w=>(Tryz.bits_LeadingZeros32 (top:Int) w (by omega) (by omega)).mono (by
  rintro e w' ⟨rfl,rfl⟩
  refine ⟨ret_int ?_,rfl⟩
  rw [show ((top:Int)).toNat=top by omega,bitLen_bl2 _ (by omega)]))
 have hbl:(bl m:Int)=32*((s0:Int)+1)-(32-(bl top:Int)):=by
  have e1:(4294967296:Nat)^s0=2^(32*s0):=by rw [Nat.pow_mul]
  have h1:=lval_take_lt (limbs m) s0 lN (by omega)
  rw [e1] at vn h1
  have:=bl_top _ top (32*s0) h1 ptop
  rw [←vn] at this
  omega
 have HB:=hid hbl
 have hcap:=h0.1
 have hcap2:=h0.2.1
 unfold maxLen at hcap2
 obtain ⟨bt,hbt⟩: ∃bt,bt=bl top:=⟨_,rfl⟩
 rw [←hbt] at LZ HB hb
 rw [hs] at hcap hm ⊢
 clear h0 hc1 htop vn hs hpos lN hbl hbt
 go_enter Tryz.func67,Tryz.ntmps67
 go_wp2_with (go_at_call 109;(with_reducible refine (LZ.out _).mono ?_);rintro e w1 ⟨rfl,rfl⟩)
 go_ret
 exact ⟨ret_int (by rw [HB.out];try omega),rfl⟩
end Go.Proofs.YtehhegbkahnhgaaGreatDoor
namespace Go.Ulp
open Go.RowKit
theorem limbs_odd (q:Nat) (h:0<(limbs q).length):((limbs q).getD 0 0)%2=q%2:=by
 have h1:=val_drop 4294967296 (limbs q) 0 h
 rw [List.drop_zero] at h1
 have h2:=lval_limbs q
 unfold lval at h2
 omega
theorem cut_pos (neg:Bool) (M j:Nat) (mode:Int):cutN neg M ((j+1:Nat):Int) mode=if M%2^(j+1)≠0∧upN neg (decide (((M/2^(j+1):Nat):Int)%2=1)) (cmpI ((M%2^(j+1):Nat):Int) ((2^j:Nat):Int)) mode=true then M/2^(j+1)+1 else M/2^(j+1):=by
 unfold cutN
 rw [if_neg (by omega),Int.toNat_natCast];rfl
theorem cutC_pos (M j:Nat):cutC M ((j+1:Nat):Int)=lostB M (j+1):=by
 unfold cutC lostB
 rw [if_neg (by omega),Int.toNat_natCast]
theorem cut_neg (neg:Bool) (M n:Nat) (mode:Int):cutN neg M (-(n:Int)) mode=M*2^n∧cutC M (-(n:Int))=false:=by
 unfold cutN cutC
 rw [if_pos (by omega),if_pos (by omega),show (-(-(n:Int))).toNat=n by omega]
 exact ⟨rfl,rfl⟩
end Go.Ulp
namespace Go.Proofs.YtehhegbkahnhgaaGreatDoor
open Go.RowKit Go.Ulp
set_option maxHeartbeats 1000000
set_option maxRecDepth 100000
theorem cut_left (neg:Bool) (a0:Option Addr) (c0 m n:Nat) (mode:Int) (w:World) (h0:Ns .u32 w a0 c0 (limbs m)) (hm:(limbs m).length≤4294967296) (hn:n≤1099511627776):
 Calls Tryz.prog 110 #[.bool neg,.slice a0 (limbs m).length c0,.int .i64 (-(n:Int)),.int .i64 mode] w fun e w'=>RetN2 w (m*2^n) (.bool false) e w':=by
 have H:=hid h0
 clear h0
 go_enter Tryz.func110,Tryz.ntmps110
 go_wp2_with (go_at_call 69;go_loud (with_reducible refine (leftN_any _ _ m n _ H.out (by omega) (by omega)).mono ?_);rintro e w1 ⟨a1,rfl,hN1,hb1⟩)
 go_ret2
 exact ⟨_,rfl,hN1,hb1⟩
theorem cut_right (neg:Bool) (a0:Option Addr) (c0 m j:Nat) (mode:Int) (w:World) (h0:Ns .u32 w a0 c0 (limbs m)) (hm:(limbs m).length≤4294967296) (hj:j≤549755813888):
 Calls Tryz.prog 110 #[.bool neg,.slice a0 (limbs m).length c0,.int .i64 ((j:Int)+1),.int .i64 mode] w fun e w'=>RetN2 w (cutN neg m ((j+1:Nat):Int) mode) (.bool (cutC m ((j+1:Nat):Int))) e w':=by
 have H:=hid h0
 clear h0
 rw [cut_pos,cutC_pos]
 obtain ⟨q,hq⟩: ∃q,q=m/2^(j+1):=⟨_,rfl⟩
 have RR:=hid (show Calls Tryz.prog 107 #[.slice a0 (limbs m).length c0,.int .i64 ((j:Int)+1)] w fun e w'=>RetN2 w (m/2^(j+1)) (.bool (lostB m (j+1))) e w' from right_any a0 c0 m (j+1) w H.out (by omega) (by omega))
 rw [←hq] at RR ⊢
 have hqm:q≤m:=by rw [hq];exact Nat.div_le_self _ _
 have hql:(limbs q).length≤(limbs m).length:=limbs_len_mono hqm
 have hle:q*2^(j+1)≤m:=by rw [hq];exact Nat.div_mul_le_self _ _
 have hml:(limbs (q*2^(j+1))).length≤(limbs m).length:=limbs_len_mono hle
 have hrest:m-q*2^(j+1)=m%2^(j+1):=by
  rw [hq];have:=Nat.div_add_mod m (2^(j+1));rw [Nat.mul_comm] at this;omega
 have hj1:0<((j+1:Nat):Int):=by omega
 by_cases hl:lostB m (j+1)=false
 ·have hz: ¬m%2^(j+1)≠0:=by unfold lostB at hl;simpa using hl
  rw [if_neg (fun h=>hz h.1)]
  rw [hl] at RR ⊢
  clear hq hqm hql hle hml hrest hz hl
  go_enter Tryz.func110,Tryz.ntmps110
  go_wp2_with (go_at_call 107;(with_reducible refine RR.out.mono ?_);rintro e w1 ⟨a1,rfl,hN1,hb1⟩)
  go_ret2
  exact ⟨_,rfl,hN1,hb1⟩
 ·have hl1:lostB m (j+1)=true:=by simpa using hl
  have hz:m%2^(j+1)≠0:=by unfold lostB at hl1;simpa using hl1
  rw [hl1] at RR ⊢
  obtain ⟨rest,hrs⟩: ∃r,r=m%2^(j+1):=⟨_,rfl⟩
  rw [←hrs] at hz hrest ⊢
  have hrl:(limbs rest).length≤(limbs m).length:=limbs_len_mono (by rw [hrs];exact Nat.mod_le _ _)
  obtain ⟨half,hhalf⟩: ∃x,x=cmpI (rest:Int) ((2^j:Nat):Int):=⟨_,rfl⟩
  obtain ⟨up,hup⟩: ∃x,x=upN neg (decide ((q:Int)%2=1)) half mode:=⟨_,rfl⟩
  have UP:=hid (show ∀od w,od=decide ((q:Int)%2=1)→Calls Tryz.prog 128 #[.bool neg,.bool od,.int .i64 half,.int .i64 mode] w fun e w'=>e=.returned (.bool up)∧w=w' from fun od w h=>by subst h;rw [hup];exact up_any _ _ _ _ w)
  have CM:=hid (show ∀a b c d w,Ns .u32 w a c (limbs rest)→Ns .u32 w b d (limbs (2^j))→Calls Tryz.prog 73 #[.slice a (limbs rest).length c,.slice b (limbs (2^j)).length d] w fun e w'=>e=.returned (.int .i64 half)∧ ∃nq,w'=w.drewN nq from fun a b c d w k0 k1=>by
   have:=compare_any a b c d rest (2^j) w k0 k1
   rw [←hhalf] at this
   exact this)
  have MI:=hid (show ∀a b c d w,Ns .u32 w a c (limbs m)→Ns .u32 w b d (limbs (q*2^(j+1)))→Calls Tryz.prog 71 #[.slice a (limbs m).length c,.slice b (limbs (q*2^(j+1))).length d] w fun e w'=>RetN w rest e w' from fun a b c d w k0 k1=>by
   have:=minus_any a b c d m (q*2^(j+1)) w k0 k1 (by omega) hle
   rwa [hrest] at this)
  have LQ:=hid (show ∀a c w,Ns .u32 w a c (limbs q)→Calls Tryz.prog 69 #[.slice a (limbs q).length c,.int .i64 ((j:Int)+1)] w fun e w'=>RetN w (q*2^(j+1)) e w' from fun a c w k=>leftN_any a c q (j+1) w k (by omega) (by omega))
  have hone:(limbs 1).length≤4294967296:=by
   have:(limbs 1).length≤1:=(digs_len_le 4294967296 (by omega) 1 1).2 (by omega)
   omega
  have LO:=hid (show ∀a c w,Ns .u32 w a c (limbs 1)→Calls Tryz.prog 69 #[.slice a (limbs 1).length c,.int .i64 (j:Int)] w fun e w'=>RetN w (2^j) e w' from fun a c w k=>by have:=leftN_any a c 1 j w k hone (by omega);rwa [Nat.one_mul] at this)
  have PL:=hid (show ∀a b c d w,Ns .u32 w a c (limbs q)→Ns .u32 w b d (limbs 1)→Calls Tryz.prog 70 #[.slice a (limbs q).length c,.slice b (limbs 1).length d] w fun e w'=>RetN w (q+1) e w' from fun a b c d w k0 k1=>plus_any a b c d q 1 w k0 k1 (by omega) hone)
  have OF:=hid (show ∀w,Calls Tryz.prog 66 #[.int .u64 1] w fun e w'=>RetN w 1 e w' from fun w=>natOf_any 1 (by omega) w)
  have hodd:(decide ((q:Int)%2=1))=decide (q%2=1):=by rw [decide_eq_decide];omega
  have hjj:((j+1:Nat):Int)-1=(j:Int):=by omega
  have HRES:=hid (show (if rest≠0∧upN neg (decide ((q:Int)%2=1)) half mode=true then q+1 else q)=if up=true then q+1 else q by
   rw [←hup];by_cases hu:up=true
   ·rw [if_pos ⟨hz,hu⟩,if_pos hu]
   ·rw [if_neg (fun h=>hu h.2),if_neg hu])
  rw [←hhalf,HRES.out]
  have HOD:=hid hodd
  clear hrs hup hhalf hrest hml hle hqm hq hl hl1 HRES hone hz hodd
  go_enter Tryz.func110,Tryz.ntmps110
  go_upto_region 8 with (first
   |(go_at_call 107;(with_reducible refine RR.out.mono ?_);rintro e w1 ⟨a1,rfl,hN1,hb1⟩)
   |(go_at_call 69;(first
    |((with_reducible refine (LQ.out _ _ _ hN1).mono ?_);rintro e w2 ⟨a2,rfl,hN2,hb2⟩)
    |((with_reducible refine (LO.out _ _ _ hN4).mono ?_);rintro e w5 ⟨a5,rfl,hN5,hb5⟩)))
   |(go_at_call 71;(with_reducible refine (MI.out _ _ _ _ _ (H.out.below (below_trans hb1 hb2)) hN2).mono ?_);rintro e w3 ⟨a3,rfl,hN3,hb3⟩)
   |(go_at_call 66;(with_reducible refine (OF.out _).mono ?_);rintro e w4 ⟨a4,rfl,hN4,hb4⟩)
   |(go_at_call 73;(with_reducible refine (CM.out _ _ _ _ _ ((hN3.below hb4).below hb5) hN5).mono ?_);rintro e w6 ⟨rfl,nq,rfl⟩))
  have y6:Below w.heap.size w (w5.drewN nq):=below_trans hb1 (below_trans hb2 (below_trans hb3 (below_trans hb4 (below_trans hb5 (below_drewN (Below.refl _ _) nq)))))
  have n6:Ns .u32 (w5.drewN nq) a1 (limbs q).length (limbs q):=hN1.below (below_trans hb2 (below_trans hb3 (below_trans hb4 (below_trans hb5 (below_drewN (Below.refl _ _) nq)))))
  clear hN1 hN2 hN3 hN4 hN5 hb2 hb3 hb4 hb5 RR CM MI LQ LO
  generalize w5.drewN nq=w6 at *
  have hcap2:=n6.2.1
  unfold maxLen at hcap2
  have N6:=hid n6
  by_cases hq0:(limbs q).length=0
  ·have hqz:q=0:=(limbs_nil q).1 (List.length_eq_zero_iff.1 hq0)
   have UP0:=hid (fun w=>UP.out false w (by subst hqz;rfl))
   have N7:=N6
   rw [hq0] at N7 PL ⊢
   clear n6 hqz
   go_upto_if 55 with (go_at_call 128;(with_reducible refine (UP0.out _).mono ?_);rintro e w7 ⟨rfl,rfl⟩)
   cases up
   ·go_wp2_with fail
    go_ret2
    have:=N6.out
    rw [hq0] at this
    exact ⟨a1,by rw [hq0];rfl,by rw [hq0];exact this,y6⟩
   ·go_wp2_with (first
     |(go_at_call 66;(with_reducible refine (OF.out _).mono ?_);rintro e w8 ⟨a8,rfl,hN8,hb8⟩)
     |(go_at_call 70;(with_reducible refine (PL.out _ _ _ _ _ (N7.out.below hb8) hN8).mono ?_);rintro e w9 ⟨a9,rfl,hN9,hb9⟩))
    go_ret2
    exact ⟨_,rfl,hN9,below_trans (below_trans y6 hb8) hb9⟩
  ·obtain ⟨b1,o1,rfl,hc1⟩:=n6.2.2 (by omega)
   obtain ⟨x,hx⟩: ∃x,x=(limbs q).getD 0 0:=⟨_,rfl⟩
   have k1:w6.cell? ⟨b1,o1,none⟩=some (.int .u32 (x:Int)):=by have:=hc1 0 (by omega);rw [hx];exact this
   have hxo:x%2=q%2:=by rw [hx];exact limbs_odd q (by omega)
   have hx2:x<4294967296:=by rw [hx];exact (limbs_lim q).getD (by omega) 0
   have hpos:0<(limbs q).length:=by omega
   have hx3:(x:Int)%2=0∨(x:Int)%2=1:=by omega
   have UP0:=hid (fun w=>UP.out ((x:Int)%2==1) w (by
    rw [Bool.eq_iff_iff,beq_iff_eq,decide_eq_true_eq];omega))
   clear n6 hc1 hx hxo hq0
   go_upto_if 55 with (go_at_call 128;(with_reducible refine (UP0.out _).mono ?_);rintro e w7 ⟨rfl,rfl⟩)
   cases up
   ·go_wp2_with fail
    go_ret2
    exact ⟨_,rfl,N6.out,y6⟩
   ·go_wp2_with (first
     |(go_at_call 66;(with_reducible refine (OF.out _).mono ?_);rintro e w8 ⟨a8,rfl,hN8,hb8⟩)
     |(go_at_call 70;(with_reducible refine (PL.out _ _ _ _ _ (N6.out.below hb8) hN8).mono ?_);rintro e w9 ⟨a9,rfl,hN9,hb9⟩))
    go_ret2
    exact ⟨_,rfl,hN9,below_trans (below_trans y6 hb8) hb9⟩
theorem cut_any (neg:Bool) (a0:Option Addr) (c0 m:Nat) (k mode:Int) (w:World) (h0:Ns .u32 w a0 c0 (limbs m)) (hm:(limbs m).length≤4294967296) (hk: -549755813888≤k∧k≤549755813888):
 Calls Tryz.prog 110 #[.bool neg,.slice a0 (limbs m).length c0,.int .i64 k,.int .i64 mode] w fun e w'=>RetN2 w (cutN neg m k mode) (.bool (cutC m k)) e w':=by
 by_cases h:k≤0
 ·obtain ⟨n,rfl⟩: ∃n:Nat,k= -(n:Int):=⟨(-k).toNat,by omega⟩
  rw [(cut_neg neg m n mode).1,(cut_neg neg m n mode).2]
  exact cut_left neg a0 c0 m n mode w h0 hm (by omega)
 ·obtain ⟨j,rfl⟩: ∃j:Nat,k=((j+1:Nat):Int):=⟨(k-1).toNat,by omega⟩
  exact cut_right neg a0 c0 m j mode w h0 hm (by omega)
end Go.Proofs.YtehhegbkahnhgaaGreatDoor
