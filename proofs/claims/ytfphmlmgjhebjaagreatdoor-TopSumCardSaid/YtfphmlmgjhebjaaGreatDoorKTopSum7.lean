/- TopSum: what the proof leans on, part 7 (Rn1 Dd2). -/
import Derived.Test.YtfphmlmgjhebjaaGreatDoorKTopSum1
import Derived.Test.YtfphmlmgjhebjaaGreatDoorKTopSum2
import Derived.Test.YtfphmlmgjhebjaaGreatDoorKTopSum3
import Derived.Test.YtfphmlmgjhebjaaGreatDoorKTopSum6
set_option linter.unusedVariables false
set_option linter.unusedSimpArgs false
namespace Go.Ulp
def IsLow (c:Int→Int) (l:Int):Prop:= -9218868437227405312≤l∧l<9218868437227405312∧(l= -9218868437227405312∨c l≤0)∧(l+1=9218868437227405312∨0<c (l+1))
def upR (neg:Bool) (mode near high:Int):Bool:=
 if near=0∧mode=0 then decide (high%2=0) else if near=0∧mode=4 then !neg else decide (mode=1∨(mode=3∧neg=true)∨((mode=0∨mode=4)∧0<near))
def tellR (neg:Bool) (r:Int):Int:=if r=0∧neg=true then 9223372036854775808 else ranked r
def ansR (c cm:Int→Int) (cz mode l:Int):Int×Bool:=
 if -9218868437227405312<l∧c l=0 then (ranked l,false) else if upR (decide (cz<0)) mode (cm l) (l+1)=true then (tellR (decide (cz<0)) (l+1),true) else (tellR (decide (cz<0)) l,true)
def rT (s:Nat) (r:Int):Int:=rvs r*pw s
def cR (s:Nat) (V r:Int):Int:=cmpI (rT s r) V
def cM (s:Nat) (V r:Int):Int:=cmpI (2*V) (rT s r+rT s (r+1))
def Rnd (s:Nat) (V mode x:Int) (ch:Bool):Prop:= ∃l,IsLow (cR s V) l∧(x,ch)=ansR (cR s V) (cM s V) (cmpI V 0) mode l
theorem cmpI_le (a b:Int):cmpI a b≤0↔a≤b:=by unfold cmpI;split<;>(try split)<;>omega
theorem cmpI_gt (a b:Int):0<cmpI a b↔b<a:=by unfold cmpI;split<;>(try split)<;>omega
theorem cmpI_lt (a b:Int):cmpI a b<0↔a<b:=by unfold cmpI;split<;>(try split)<;>omega
theorem rT_mono (s:Nat) {a b:Int} (h:a<b):rT s a<rT s b:=(pw_lt s).2 (rvs_mono h)
theorem rT_le (s:Nat) {a b:Int} (h:a≤b):rT s a≤rT s b:=by
 rcases Int.lt_or_eq_of_le h with h|h
 ·exact Int.le_of_lt (rT_mono s h)
 ·rw [h];exact Int.le_refl _
theorem rT_nat (s R:Nat):rT s (R:Int)=((rvi R*2^s:Nat):Int):=by
 unfold rT rvs;rw [if_neg (by omega),Int.natAbs_natCast,pw_nat,Int.natCast_mul]
theorem rT_neg (s:Nat) (r:Int):rT s (-r)= -rT s r:=by unfold rT;rw [rvs_neg,Int.neg_mul]
theorem low_uniq {s:Nat} {V l m:Int} (h:IsLow (cR s V) l) (k:IsLow (cR s V) m):l=m:=by
 have key: ∀ {l m:Int},IsLow (cR s V) l→IsLow (cR s V) m→ ¬l<m:=by
  intro l m h k hlt
  obtain ⟨h0,h1,h2,h3⟩:=h
  obtain ⟨k0,k1,k2,k3⟩:=k
  have a1:0<cR s V (l+1):=by rcases h3 with h3|h3
                             ·omega
                             ·exact h3
  have a2:cR s V m≤0:=by rcases k2 with k2|k2
                         ·omega
                         ·exact k2
  have b1:=(cmpI_gt _ _).1 a1
  have b2:=(cmpI_le _ _).1 a2
  have b3:=rT_le s (show l+1≤m by omega)
  omega
 have:=key h k
 have:=key k h
 omega
theorem Rnd.uniq {s:Nat} {V mode x y:Int} {ch dh:Bool} (h:Rnd s V mode x ch) (k:Rnd s V mode y dh):x=y∧ch=dh:=by
 obtain ⟨l,h1,h2⟩:=h
 obtain ⟨m,k1,k2⟩:=k
 have e:=low_uniq h1 k1
 subst e
 rw [←k2] at h2
 exact Prod.mk.inj h2
theorem Rnd.same {s t:Nat} {V U mode x:Int} {ch:Bool} (h:Rnd s V mode x ch) (h1: ∀r,cR s V r=cR t U r) (h2: ∀r,cM s V r=cM t U r) (h3:cmpI V 0=cmpI U 0):Rnd t U mode x ch:=by
 obtain ⟨l,a,b⟩:=h
 have e1:cR s V=cR t U:=funext h1
 have e2:cM s V=cM t U:=funext h2
 rw [e1] at a
 rw [e1,e2,h3] at b
 exact ⟨l,a,b⟩
def upN (neg odd:Bool) (half mode:Int):Bool:=if mode=1 then !neg else if mode=2 then neg else if mode=3 then false else if mode=4 then decide (0≤half) else decide (0<half∨(half=0∧odd=true))
def overA (neg:Bool) (mode:Int):Bool:=decide (mode=0∨mode=4∨(mode=1∧neg=false)∨(mode=2∧neg=true))
def sgb (neg:Bool):Int:=if neg then 9223372036854775808 else 0
def capX (neg:Bool) (mode:Int) (R:Int):Int:=if 9218868437227405312≤R then (if overA neg mode=true then 9218868437227405312 else 9218868437227405311)+sgb neg else R+sgb neg
def capC (R:Int) (ch:Bool):Bool:=if 9218868437227405312≤R then true else ch
theorem rvi_top (R:Nat) (h:9218868437227405312≤R):rvi 9218868437227405312≤rvi R:=by
 rcases Nat.lt_or_eq_of_le h with h|h
 ·exact Nat.le_of_lt (rvi_mono h)
 ·rw [h];exact Nat.le_refl _
theorem up_pos (near mode R:Int) (h0:0≤mode) (h1:mode≤4):upR false mode near (R+1)=upN false (decide (R%2=1)) near mode:=by
 have:mode=0∨mode=1∨mode=2∨mode=3∨mode=4:=by omega
 unfold upR upN
 rcases this with rfl|rfl|rfl|rfl|rfl
 ·by_cases h:near=0
  ·subst h;simp;omega
  ·simp [h]
 ·simp
 ·simp
 ·simp
 ·by_cases h:near=0
  ·subst h;simp
  ·simp [h];omega
theorem up_neg (near mode R:Int) (h0:0≤mode) (h1:mode≤4):upR true mode (-near) (-R)=!upN true (decide (R%2=1)) near mode:=by
 have:mode=0∨mode=1∨mode=2∨mode=3∨mode=4:=by omega
 rw [Bool.eq_iff_iff,Bool.not_eq_true']
 unfold upR upN
 rcases this with rfl|rfl|rfl|rfl|rfl
 ·by_cases h:near=0
  ·subst h
   rcases Int.emod_two_eq R with e|e
   ·have: -R%2=0:=by omega
    simp [e,this]
   ·have: ¬ -R%2=0:=by omega
    simp [e,this]
  ·have: ¬ -near=0:=by omega
   simp [h,this];omega
 ·simp
 ·simp
 ·simp
 ·by_cases h:near=0
  ·subst h;simp
  ·have: ¬ -near=0:=by omega
   simp [h,this]
theorem up_over_pos {odd:Bool} {near mode:Int} (h0:0≤mode) (h1:mode≤4) (h:upN false odd near mode=true):overA false mode=true:=by
 have:mode=0∨mode=1∨mode=2∨mode=3∨mode=4:=by omega
 rcases this with rfl|rfl|rfl|rfl|rfl<;>simp [upN,overA] at h ⊢
theorem up_over_neg {odd:Bool} {near mode:Int} (h0:0≤mode) (h1:mode≤4) (h:upN true odd near mode=true):overA true mode=true:=by
 have:mode=0∨mode=1∨mode=2∨mode=3∨mode=4:=by omega
 rcases this with rfl|rfl|rfl|rfl|rfl<;>simp [upN,overA] at h ⊢
theorem cmpI_neg_neg (a b:Int):cmpI (-a) (-b)= -cmpI a b:=by unfold cmpI;split<;>split<;>(try split)<;>(try split)<;>omega
theorem cmpI_shift (a b c:Int):cmpI (a+c) (b+c)=cmpI a b:=by unfold cmpI;split<;>split<;>(try split)<;>(try split)<;>omega
theorem ranked_pos (r:Int) (h:0≤r):ranked r=r:=by unfold ranked;rw [if_neg (by omega)]
theorem ranked_negv (r:Int) (h:r<0):ranked r=9223372036854775808+ -r:=by unfold ranked;rw [if_pos h]
theorem tell_pos (r:Int) (h:0≤r):tellR false r=r:=by unfold tellR;rw [if_neg (by simp),ranked_pos r h]
theorem tell_neg (r:Int) (h:r≤0):tellR true r=9223372036854775808+ -r:=by
 unfold tellR
 by_cases h0:r=0
 ·subst h0;rw [if_pos ⟨rfl,rfl⟩];rfl
 ·rw [if_neg (fun h=>h0 h.1),ranked_negv r (by omega)]
theorem rnd_core_pos (s R t P rest:Nat) (mode:Int) (h0:rvi R*2^s=t) (h1:rvi (R+1)*2^s=t+P) (hr:rest<P) (m0:0≤mode) (m1:mode≤4) (Rr:Int)
 (hR:Rr=if rest≠0∧upN false (decide ((R:Int)%2=1)) (cmpI (2*(rest:Int)) P) mode=true then (R:Int)+1 else R):
 Rnd s ((t+rest:Nat):Int) mode (capX false mode Rr) (capC Rr (decide (rest≠0))):=by
 have T0:rT s (R:Int)=(t:Int):=by rw [rT_nat,h0]
 have T1:rT s ((R:Int)+1)=(t:Int)+P:=by rw [show (R:Int)+1=((R+1:Nat):Int) by omega,rT_nat,h1];omega
 have cz:decide (cmpI ((t+rest:Nat):Int) 0<0)=false:=decide_eq_false (by rw [cmpI_lt];omega)
 by_cases hlt:R<9218868437227405312
 ·refine ⟨R,⟨by omega,by omega,.inr ?_,.inr ?_⟩,?_⟩
  ·unfold cR;rw [T0,cmpI_le];omega
  ·unfold cR;rw [T1,cmpI_gt];omega
  ·unfold ansR
   by_cases hz:rest=0
   ·subst hz
    rw [if_neg (by simp)] at hR
    subst hR
    rw [if_pos ⟨by omega,by unfold cR;rw [T0,cmpI_eq_zero];rfl⟩]
    unfold capX capC
    rw [if_neg (by omega),if_neg (by omega),ranked_pos _ (by omega)];simp [sgb]
   ·rw [if_neg (fun h=>by have:=h.2;unfold cR at this;rw [T0,cmpI_eq_zero] at this;omega),cz]
    have en:cM s ((t+rest:Nat):Int) R=cmpI (2*(rest:Int)) P:=by
     unfold cM;rw [T0,T1,←cmpI_shift (2*(rest:Int)) P (2*(t:Int))];congr 1<;>omega
    rw [en,up_pos _ _ _ m0 m1]
    by_cases hu:upN false (decide ((R:Int)%2=1)) (cmpI (2*(rest:Int)) P) mode=true
    ·rw [if_pos ⟨hz,hu⟩] at hR
     subst hR
     rw [if_pos hu,tell_pos _ (by omega)]
     unfold capX capC
     by_cases ho:(9218868437227405312:Int)≤R+1
     ·rw [if_pos ho,if_pos ho,if_pos (up_over_pos m0 m1 hu)];simp [sgb];omega
     ·rw [if_neg ho,if_neg ho];simp [sgb,hz]
    ·rw [if_neg (fun h=>hu h.2)] at hR
     subst hR
     rw [if_neg hu,tell_pos _ (by omega)]
     unfold capX capC
     rw [if_neg (by omega),if_neg (by omega)];simp [sgb,hz]
 ·have g1:=rvi_top R (by omega)
  have g2:rvi 9218868437227405311<rvi 9218868437227405312:=rvi_mono (by omega)
  have e1:rT s 9218868437227405312≤(t:Int):=by
   rw [←T0];exact rT_le s (by omega)
  have e2:rT s 9218868437227405311<rT s 9218868437227405312:=rT_mono s (by omega)
  refine ⟨9218868437227405311,⟨by omega,by omega,.inr ?_,.inl rfl⟩,?_⟩
  ·unfold cR;rw [cmpI_le];omega
  ·unfold ansR
   rw [if_neg (fun h=>by have:=h.2;unfold cR at this;rw [cmpI_eq_zero] at this;omega),cz]
   have en:cM s ((t+rest:Nat):Int) 9218868437227405311=1:=by
    unfold cM cmpI
    rw [show (9218868437227405311:Int)+1=9218868437227405312 from rfl,if_neg (by omega),if_pos (by omega)]
   rw [en,show (9218868437227405311:Int)+1=9218868437227405312 from rfl,tell_pos _ (by omega),tell_pos _ (by omega)]
   have hb:(9218868437227405312:Int)≤Rr:=by subst hR;split<;>omega
   unfold capX capC
   rw [if_pos hb,if_pos hb]
   have:upR false mode 1 9218868437227405312=overA false mode:=by
    have:mode=0∨mode=1∨mode=2∨mode=3∨mode=4:=by omega
    rcases this with rfl|rfl|rfl|rfl|rfl<;>simp [upR,overA]
   rw [this]
   simp only [sgb]
   split<;>simp
theorem rnd_core_neg (s R t P rest:Nat) (mode:Int) (h0:rvi R*2^s=t) (h1:rvi (R+1)*2^s=t+P) (hr:rest<P) (hpos:0<t+rest) (m0:0≤mode) (m1:mode≤4) (Rr:Int)
 (hR:Rr=if rest≠0∧upN true (decide ((R:Int)%2=1)) (cmpI (2*(rest:Int)) P) mode=true then (R:Int)+1 else R):
 Rnd s (-((t+rest:Nat):Int)) mode (capX true mode Rr) (capC Rr (decide (rest≠0))):=by
 have T0:rT s (-(R:Int))= -(t:Int):=by rw [rT_neg,rT_nat,h0]
 have T1:rT s (-((R:Int)+1))= -((t:Int)+P):=by rw [rT_neg,show (R:Int)+1=((R+1:Nat):Int) by omega,rT_nat,h1];omega
 have cz:decide (cmpI (-((t+rest:Nat):Int)) 0<0)=true:=decide_eq_true (by rw [cmpI_lt];omega)
 by_cases hlt:R<9218868437227405312
 ·by_cases hz:rest=0
  ·subst hz
   rw [if_neg (by simp)] at hR
   subst hR
   have hRp:0<R:=by
    rcases Nat.eq_zero_or_pos R with e|e
    ·subst e;rw [rvi_zero] at h0;omega
    ·exact e
   have T2:=rT_mono s (show -(R:Int)< -(R:Int)+1 by omega)
   refine ⟨-R,⟨by omega,by omega,.inr ?_,.inr ?_⟩,?_⟩
   ·unfold cR;rw [T0,cmpI_le];omega
   ·unfold cR;rw [cmpI_gt];omega
   ·unfold ansR
    rw [if_pos ⟨by omega,by unfold cR;rw [T0,cmpI_eq_zero];omega⟩]
    unfold capX capC
    rw [if_neg (by omega),if_neg (by omega),ranked_negv _ (by omega)];simp [sgb];omega
  ·refine ⟨-((R:Int)+1),⟨by omega,by omega,.inr ?_,.inr ?_⟩,?_⟩
   ·unfold cR;rw [T1,cmpI_le];omega
   ·unfold cR;rw [show -((R:Int)+1)+1= -(R:Int) by omega,T0,cmpI_gt];omega
   ·unfold ansR
    rw [if_neg (fun h=>by have:=h.2;unfold cR at this;rw [T1,cmpI_eq_zero] at this;omega),cz]
    have en:cM s (-((t+rest:Nat):Int)) (-((R:Int)+1))= -cmpI (2*(rest:Int)) P:=by
     unfold cM
     rw [show -((R:Int)+1)+1= -(R:Int) by omega,T0,T1,←cmpI_neg_neg,←cmpI_shift (-(2*(rest:Int))) (-(P:Int)) (-(2*(t:Int)))];congr 1<;>omega
    rw [en,show -((R:Int)+1)+1= -(R:Int) by omega,up_neg _ _ _ m0 m1,tell_neg _ (by omega),tell_neg _ (by omega)]
    by_cases hu:upN true (decide ((R:Int)%2=1)) (cmpI (2*(rest:Int)) P) mode=true
    ·rw [if_pos ⟨hz,hu⟩] at hR
     subst hR
     rw [hu,if_neg (by simp)]
     unfold capX capC
     by_cases ho:(9218868437227405312:Int)≤R+1
     ·rw [if_pos ho,if_pos ho,if_pos (up_over_neg m0 m1 hu)];simp [sgb];omega
     ·rw [if_neg ho,if_neg ho];simp [sgb,hz];omega
    ·rw [if_neg (fun h=>hu h.2)] at hR
     subst hR
     rw [if_pos (by simp [hu])]
     unfold capX capC
     rw [if_neg (by omega),if_neg (by omega)];simp [sgb,hz];omega
 ·have e1:rT s (-(R:Int))≤rT s (-9218868437227405312):=rT_le s (by omega)
  have e2:rT s (-9218868437227405312)<rT s (-9218868437227405311):=rT_mono s (by omega)
  refine ⟨-9218868437227405312,⟨by omega,by omega,.inl rfl,.inr ?_⟩,?_⟩
  ·unfold cR;rw [show -(9218868437227405312:Int)+1= -9218868437227405311 from rfl,cmpI_gt];omega
  ·unfold ansR
   rw [if_neg (fun h=>by have:=h.1;omega),cz]
   have en:cM s (-((t+rest:Nat):Int)) (-9218868437227405312)= -1:=by
    unfold cM cmpI
    rw [show -(9218868437227405312:Int)+1= -9218868437227405311 from rfl,if_pos (by omega)]
   rw [en,show -(9218868437227405312:Int)+1= -9218868437227405311 from rfl,tell_neg _ (by omega),tell_neg _ (by omega)]
   have hb:(9218868437227405312:Int)≤Rr:=by subst hR;split<;>omega
   unfold capX capC
   rw [if_pos hb,if_pos hb]
   have:upR true mode (-1) (-9218868437227405311)=!overA true mode:=by
    have:mode=0∨mode=1∨mode=2∨mode=3∨mode=4:=by omega
    rcases this with rfl|rfl|rfl|rfl|rfl<;>simp [upR,overA]
   rw [this]
   cases overA true mode<;>simp [sgb]
theorem rvi_parts (h q:Nat) (hq:q<9007199254740992) (hh:h=0∨4503599627370496≤q):rvi (h*4503599627370496+q)=q*2^h∧rvi (h*4503599627370496+q+1)=(q+1)*2^h:=by
 have key:rvi (h*4503599627370496+q)=q*2^h:=by
  unfold rvi
  by_cases h1:h*4503599627370496+q<4503599627370496
  ·rw [if_pos h1,show h=0 by omega];omega
  ·rw [if_neg h1]
   have:4503599627370496≤q:=by omega
   rw [show (h*4503599627370496+q)/4503599627370496-1=h by omega,show (h*4503599627370496+q)%4503599627370496+4503599627370496=q by omega]
 refine ⟨key,?_⟩
 rw [rvi_succ,key,Nat.succ_mul]
 congr 2
 omega
def cutN (neg:Bool) (M:Nat) (j mode:Int):Nat:=
 if j≤0 then M*2^(-j).toNat else if M%2^j.toNat≠0∧upN neg (decide (((M/2^j.toNat:Nat):Int)%2=1)) (cmpI ((M%2^j.toNat:Nat):Int) ((2^(j.toNat-1):Nat):Int)) mode=true then M/2^j.toNat+1 else M/2^j.toNat
def cutC (M:Nat) (j:Int):Bool:=if j≤0 then false else decide (M%2^j.toNat≠0)
def numK (M:Nat) (e:Int):Int:=max ((bl M:Int)+e-53) (-1074)
def numR (neg:Bool) (M:Nat) (e mode:Int):Int:=if M=0 then 0 else (numK M e+1074)*4503599627370496+cutN neg M (numK M e-e) mode
def numX (neg:Bool) (M:Nat) (e mode:Int):Int:=capX neg mode (numR neg M e mode)
def numC (neg:Bool) (M:Nat) (e mode:Int):Bool:=capC (numR neg M e mode) (cutC M (numK M e-e))
theorem rnd_core (neg:Bool) (s R t P rest:Nat) (mode:Int) (h0:rvi R*2^s=t) (h1:rvi (R+1)*2^s=t+P) (hr:rest<P) (hpos:neg=true→0<t+rest) (m0:0≤mode) (m1:mode≤4) (Rr:Int)
 (hR:Rr=if rest≠0∧upN neg (decide ((R:Int)%2=1)) (cmpI (2*(rest:Int)) P) mode=true then (R:Int)+1 else R):
 Rnd s (sg neg ((t+rest:Nat):Int)) mode (capX neg mode Rr) (capC Rr (decide (rest≠0))):=by
 cases neg
 ·exact rnd_core_pos s R t P rest mode h0 h1 hr m0 m1 Rr hR
 ·exact rnd_core_neg s R t P rest mode h0 h1 hr (hpos rfl) m0 m1 Rr hR
theorem mode_half (x y E:Nat):cmpI (2*((x*2^E:Nat):Int)) ((2*y*2^E:Nat):Int)=cmpI (x:Int) (y:Int):=by
 rw [←cmpI_pw (x:Int) (y:Int) (E+1),pw_nat,Nat.pow_succ]
 have e1:2*((x*2^E:Nat):Int)=((x*(2^E*2):Nat):Int):=by rw [←Nat.mul_assoc];omega
 have e2:((2*y*2^E:Nat):Int)=((y*(2^E*2):Nat):Int):=by congr 1;rw [←Nat.mul_assoc,Nat.mul_assoc 2,Nat.mul_comm 2]
 rw [e1,e2,Int.natCast_mul x,Int.natCast_mul y]
theorem number_rnd (neg:Bool) (M:Nat) (e mode:Int) (s:Nat) (m0:0≤mode) (m1:mode≤4) (hz:M=0→neg=false) (hs:0≤e+1074+s):
 Rnd s (sg neg ((M*2^(e+1074+s).toNat:Nat):Int)) mode (numX neg M e mode) (numC neg M e mode):=by
 by_cases hM:M=0
 ·have:=hz hM
  subst hM;subst this
  have h:=rnd_core_pos s 0 0 (2^s) 0 mode (by rw [rvi_zero,Nat.zero_mul]) (by rw [show rvi (0+1)=1 by decide,Nat.one_mul,Nat.zero_add]) (Nat.two_pow_pos s) m0 m1 0 (by simp)
  have e1:numR false 0 e mode=0:=by unfold numR;rw [if_pos rfl]
  have e2:cutC 0 (numK 0 e-e)=decide ((0:Nat)≠0):=by unfold cutC;split<;>simp
  unfold numX numC
  rw [e1,e2,Nat.zero_mul]
  exact h
 ·have b1:=lt_bl M
  have b2:=pow_bl M (by omega)
  have b3:=(bl_pos M).2 (by omega)
  obtain ⟨k,hk⟩: ∃k,k=numK M e:=⟨_,rfl⟩
  have hk2:=hk
  unfold numK at hk2
  obtain ⟨h,hh⟩: ∃h:Nat,(h:Int)=k+1074:=⟨(k+1074).toNat,by omega⟩
  obtain ⟨E,hE⟩: ∃E,E=(e+1074+s).toNat:=⟨_,rfl⟩
  have hRe:numR neg M e mode=(h:Int)*4503599627370496+cutN neg M (k-e) mode:=by unfold numR;rw [if_neg hM,←hk,←hh]
  have hpow:0<2^s:=Nat.two_pow_pos s
  have core: ∀q rest:Nat,q<9007199254740992→(h=0∨4503599627370496≤q)→M*2^E=q*2^(h+s)+rest→rest<2^(h+s)→cutC M (k-e)=decide (rest≠0)→
   (cutN neg M (k-e) mode:Int)=(if rest≠0∧upN neg (decide ((q:Int)%2=1)) (cmpI (2*(rest:Int)) ((2^(h+s):Nat):Int)) mode=true then (q:Int)+1 else q)→
   Rnd s (sg neg ((M*2^E:Nat):Int)) mode (numX neg M e mode) (numC neg M e mode):=by
   intro q rest hq hqh hA hr hC hN
   obtain ⟨r1,r2⟩:=rvi_parts h q hq hqh
   have par:(((h*4503599627370496+q:Nat):Int)%2=1)=((q:Int)%2=1):=by rw [eq_iff_iff];omega
   have g:=rnd_core neg s (h*4503599627370496+q) (q*2^(h+s)) (2^(h+s)) rest mode (by rw [r1,Nat.pow_add,Nat.mul_assoc]) (by rw [r2,Nat.pow_add,Nat.mul_assoc,Nat.succ_mul]) hr (fun _=>by rw [←hA];exact Nat.mul_pos (by omega) (Nat.two_pow_pos E)) m0 m1 (numR neg M e mode) (by
    rw [hRe,hN]
    simp only [par]
    split<;>omega)
   rw [hA]
   unfold numX numC
   rw [←hk,hC]
   exact g
  rw [←hE]
  by_cases hj:k-e≤0
  ·obtain ⟨d,hd⟩: ∃d:Nat,(d:Int)= -(k-e):=⟨(-(k-e)).toNat,by omega⟩
   have hd2:(-(k-e)).toNat=d:=by omega
   refine core (M*2^d) 0 ?_ ?_ ?_ (Nat.two_pow_pos _) ?_ ?_
   ·have:M*2^d<2^bl M*2^d:=Nat.mul_lt_mul_of_pos_right b1 (Nat.two_pow_pos d)
    rw [←Nat.pow_add] at this
    exact Nat.lt_of_lt_of_le this (Nat.pow_le_pow_right (by omega) (show bl M+d≤53 by omega))
   ·by_cases h0:h=0
    ·exact .inl h0
    ·right
     have:2^(bl M-1)*2^d≤M*2^d:=Nat.mul_le_mul_right _ b2
     rw [←Nat.pow_add,show bl M-1+d=52 by omega] at this
     exact this
   ·rw [Nat.add_zero,Nat.mul_assoc,←Nat.pow_add];congr 2;omega
   ·unfold cutC;rw [if_pos hj];rfl
   ·unfold cutN;rw [if_pos hj,if_neg (by simp),hd2]
  ·obtain ⟨j,hj2⟩: ∃j:Nat,(j:Int)=k-e:=⟨(k-e).toNat,by omega⟩
   have hj3:(k-e).toNat=j:=by omega
   have hsum:h+s=j+E:=by omega
   have hP:2^(h+s)=2^j*2^E:=by rw [hsum,Nat.pow_add]
   have hj1:2^j=2*2^(j-1):=by rw [←Nat.pow_succ'];congr 1;omega
   have hEp:0<2^E:=Nat.two_pow_pos E
   have nz:((M%2^j)*2^E≠0)=(M%2^j≠0):=by
    rw [eq_iff_iff]
    constructor
    ·intro h1 h2;rw [h2,Nat.zero_mul] at h1;exact h1 rfl
    ·intro h1 h2
     rcases Nat.mul_eq_zero.1 h2 with h3|h3
     ·exact h1 h3
     ·omega
   refine core (M/2^j) ((M%2^j)*2^E) ?_ ?_ ?_ ?_ ?_ ?_
   ·rw [Nat.div_lt_iff_lt_mul (Nat.two_pow_pos j),show (9007199254740992:Nat)=2^53 by decide,←Nat.pow_add]
    exact Nat.lt_of_lt_of_le b1 (Nat.pow_le_pow_right (by omega) (by omega))
   ·by_cases h0:h=0
    ·exact .inl h0
    ·right
     rw [Nat.le_div_iff_mul_le (Nat.two_pow_pos j),show (4503599627370496:Nat)=2^52 by decide,←Nat.pow_add,show 52+j=bl M-1 by omega]
     exact b2
   ·rw [hP,←Nat.mul_assoc,←Nat.add_mul];congr 1
    rw [Nat.mul_comm];exact (Nat.div_add_mod M (2^j)).symm
   ·rw [hP];exact Nat.mul_lt_mul_of_pos_right (Nat.mod_lt _ (Nat.two_pow_pos j)) hEp
   ·unfold cutC;rw [if_neg hj,hj3];simp only [nz]
   ·unfold cutN;rw [if_neg hj,hj3]
    have em:cmpI (2*(((M%2^j)*2^E:Nat):Int)) ((2^(h+s):Nat):Int)=cmpI ((M%2^j:Nat):Int) ((2^(j-1):Nat):Int):=by
     have hPP:2^j*2^E=2*2^(j-1)*2^E:=by rw [←hj1]
     rw [hP,hPP];exact mode_half (M%2^j) (2^(j-1)) E
    rw [em]
    simp only [nz]
    split<;>omega
theorem cmpI_swap (a b:Int):cmpI a b= -cmpI b a:=by unfold cmpI;split<;>split<;>(try split)<;>(try split)<;>omega
end Go.Ulp
namespace Go.Proofs.YtfphmlmgjhebjaaGreatDoor
open Go.RowKit Go.Ulp
set_option maxHeartbeats 1000000
set_option maxRecDepth 100000
theorem up_any (neg odd:Bool) (half mode:Int) (w:World):
 Calls Tryz.prog 214 #[.bool neg,.bool odd,.int .i64 half,.int .i64 mode] w fun e w'=>e=.returned (.bool (upN neg odd half mode))∧w=w':=by
 by_cases h1:mode=1
 ·subst h1
  go_enter Tryz.func214,Tryz.ntmps214
  go_wp2_with fail
  go_ret
  exact ⟨ret_bool (by simp [upN]),rfl⟩
 by_cases h2:mode=2
 ·subst h2
  go_enter Tryz.func214,Tryz.ntmps214
  go_wp2_with fail
  go_ret
  exact ⟨ret_bool (by simp [upN]),rfl⟩
 by_cases h3:mode=3
 ·subst h3
  go_enter Tryz.func214,Tryz.ntmps214
  go_wp2_with fail
  go_ret
  exact ⟨ret_bool (by simp [upN]),rfl⟩
 by_cases h4:mode=4
 ·subst h4
  go_enter Tryz.func214,Tryz.ntmps214
  go_wp2_with fail
  go_ret
  exact ⟨ret_bool (by simp [upN]),rfl⟩
 have b1:(mode==1)=false:=beq_eq_false_iff_ne.2 h1
 have b2:(mode==2)=false:=beq_eq_false_iff_ne.2 h2
 have b3:(mode==3)=false:=beq_eq_false_iff_ne.2 h3
 have b4:(mode==4)=false:=beq_eq_false_iff_ne.2 h4
 have hu:upN neg odd half mode=decide (0<half∨(half=0∧odd=true)):=by unfold upN;rw [if_neg h1,if_neg h2,if_neg h3,if_neg h4]
 rw [hu]
 clear hu h1 h2 h3 h4
 rcases Int.lt_trichotomy half 0 with h|h|h
 ·have c1:decide (0<half)=false:=decide_eq_false (by omega)
  have c2:(half==0)=false:=beq_eq_false_iff_ne.2 (by omega)
  have hr:decide (0<half∨(half=0∧odd=true))=false:=decide_eq_false (fun h2=>by omega)
  rw [hr]
  clear hr
  go_enter Tryz.func214,Tryz.ntmps214
  go_wp2_with fail
  go_ret
  exact ⟨rfl,rfl⟩
 ·subst h
  have hr:decide ((0:Int)<0∨((0:Int)=0∧odd=true))=odd:=by cases odd<;>rfl
  rw [hr]
  clear hr
  go_enter Tryz.func214,Tryz.ntmps214
  go_wp2_with fail
  go_ret
  exact ⟨rfl,rfl⟩
 ·have c1:decide (0<half)=true:=decide_eq_true h
  have hr:decide (0<half∨(half=0∧odd=true))=true:=decide_eq_true (.inl h)
  rw [hr]
  clear hr
  go_enter Tryz.func214,Tryz.ntmps214
  go_wp2_with fail
  go_ret
  exact ⟨rfl,rfl⟩
theorem natLen_any (a0:Option Addr) (c0 m:Nat) (w:World) (h0:Ns .u32 w a0 c0 (limbs m)) (hm:(limbs m).length≤1000000):
 Calls Tryz.prog 94 #[.slice a0 (limbs m).length c0] w fun e w'=>e=.returned (.int .i64 (bl m:Int))∧w=w':=by
 by_cases hz:m=0
 ·subst hz
  rw [limbs_zero]
  go_enter Tryz.func94,Tryz.ntmps94
  go_wp2_with fail
  go_ret
  exact ⟨rfl,rfl⟩
 have hpos:0<(limbs m).length:=(digs_len_pos 4294967296 (by omega) m).2 (by omega)
 obtain ⟨s0,hs⟩: ∃s0,(limbs m).length=s0+1:=⟨(limbs m).length-1,by omega⟩
 obtain ⟨top,htop⟩: ∃top,top=(limbs m).getD s0 0:=⟨_,rfl⟩
 have lN:=limbs_lim m
 have btop:top<4294967296:=by rw [htop];exact lN.getD (by omega) _
 have ptop:0<top:=by
  have:=(trim_iff (limbs m)).1 (limbs_trim m)
  rw [hs] at this
  rcases this with h|h
  ·omega
  ·rw [htop];exact Nat.pos_of_ne_zero h
 obtain ⟨b1,o1,rfl,hc1⟩:=h0.2.2 (by omega)
 have k1:w.cell? ⟨b1,o1+s0,none⟩=some (.int .u32 (top:Int)):=by rw [hc1 s0 (by omega),htop];rfl
 have vn:m=lval ((limbs m).take s0)+4294967296^s0*top:=by
  have:=lval_take_succ (limbs m) s0 (by omega)
  rw [List.take_of_length_le (by omega),lval_limbs,←htop] at this
  exact this
 have hb:bl top≤32:=(bl_le top 32).2 (by simpa using btop)
 have LZ:=hid (show ∀w,Calls Tryz.prog 173 #[.int .u32 (top:Int)] w fun e w'=>e=.returned (.int .i64 (32-(bl top:Int)))∧w=w' from fun w=>(Tryz.bits_LeadingZeros32 (top:Int) w (by omega) (by omega)).mono (by
  rintro e w' ⟨rfl,rfl⟩
  refine ⟨ret_int ?_,rfl⟩
  rw [show ((top:Int)).toNat=top by omega,bitLen_bl2 _ (by omega)]))
 have hbl:(bl m:Int)=32*((s0:Int)+1)-(32-(bl top:Int)):=by
  have e1:(4294967296:Nat)^s0=2^(32*s0):=by rw [Nat.pow_mul]
  have h1:=lval_take_lt (limbs m) s0 lN (by omega)
  rw [e1] at vn h1
  have:=bl_top _ top (32*s0) h1 ptop
  rw [←vn] at this
  omega
 have HB:=hid hbl
 have hcap:=h0.1
 have hcap2:=h0.2.1
 unfold maxLen at hcap2
 obtain ⟨bt,hbt⟩: ∃bt,bt=bl top:=⟨_,rfl⟩
 rw [←hbt] at LZ HB hb
 rw [hs] at hcap hm ⊢
 clear h0 hc1 htop vn hs hpos lN hbl hbt
 go_enter Tryz.func94,Tryz.ntmps94
 go_wp2_with (go_at_call 173;(with_reducible refine (LZ.out _).mono ?_);rintro e w1 ⟨rfl,rfl⟩)
 go_ret
 exact ⟨ret_int (by rw [HB.out];try omega),rfl⟩
end Go.Proofs.YtfphmlmgjhebjaaGreatDoor
namespace Go.Ulp
open Go.RowKit
theorem limbs_odd (q:Nat) (h:0<(limbs q).length):((limbs q).getD 0 0)%2=q%2:=by
 have h1:=val_drop 4294967296 (limbs q) 0 h
 rw [List.drop_zero] at h1
 have h2:=lval_limbs q
 unfold lval at h2
 omega
theorem cut_pos (neg:Bool) (M j:Nat) (mode:Int):cutN neg M ((j+1:Nat):Int) mode=if M%2^(j+1)≠0∧upN neg (decide (((M/2^(j+1):Nat):Int)%2=1)) (cmpI ((M%2^(j+1):Nat):Int) ((2^j:Nat):Int)) mode=true then M/2^(j+1)+1 else M/2^(j+1):=by
 unfold cutN
 rw [if_neg (by omega),Int.toNat_natCast];rfl
theorem cutC_pos (M j:Nat):cutC M ((j+1:Nat):Int)=lostB M (j+1):=by
 unfold cutC lostB
 rw [if_neg (by omega),Int.toNat_natCast]
theorem cut_neg (neg:Bool) (M n:Nat) (mode:Int):cutN neg M (-(n:Int)) mode=M*2^n∧cutC M (-(n:Int))=false:=by
 unfold cutN cutC
 rw [if_pos (by omega),if_pos (by omega),show (-(-(n:Int))).toNat=n by omega]
 exact ⟨rfl,rfl⟩
end Go.Ulp
namespace Go.Proofs.YtfphmlmgjhebjaaGreatDoor
open Go.RowKit Go.Ulp
set_option maxHeartbeats 1000000
set_option maxRecDepth 100000
theorem cut_left (neg:Bool) (a0:Option Addr) (c0 m n:Nat) (mode:Int) (w:World) (h0:Ns .u32 w a0 c0 (limbs m)) (hm:(limbs m).length≤1000000) (hn:n≤1000000):
 Calls Tryz.prog 152 #[.bool neg,.slice a0 (limbs m).length c0,.int .i64 (-(n:Int)),.int .i64 mode] w fun e w'=>RetN2 w (m*2^n) (.bool false) e w':=by
 have H:=hid h0
 clear h0
 go_enter Tryz.func152,Tryz.ntmps152
 go_wp2_with (go_at_call 172;go_loud (with_reducible refine (leftN_any _ _ m n _ H.out (by omega) (by omega)).mono ?_);rintro e w1 ⟨a1,rfl,hN1,hb1⟩)
 go_ret2
 exact ⟨_,rfl,hN1,hb1⟩
theorem cut_right (neg:Bool) (a0:Option Addr) (c0 m j:Nat) (mode:Int) (w:World) (h0:Ns .u32 w a0 c0 (limbs m)) (hm:(limbs m).length≤1000000) (hj:j≤1000000):
 Calls Tryz.prog 152 #[.bool neg,.slice a0 (limbs m).length c0,.int .i64 ((j:Int)+1),.int .i64 mode] w fun e w'=>RetN2 w (cutN neg m ((j+1:Nat):Int) mode) (.bool (cutC m ((j+1:Nat):Int))) e w':=by
 have H:=hid h0
 clear h0
 rw [cut_pos,cutC_pos]
 obtain ⟨q,hq⟩: ∃q,q=m/2^(j+1):=⟨_,rfl⟩
 have RR:=hid (show Calls Tryz.prog 213 #[.slice a0 (limbs m).length c0,.int .i64 ((j:Int)+1)] w fun e w'=>RetN2 w (m/2^(j+1)) (.bool (lostB m (j+1))) e w' from right_any a0 c0 m (j+1) w H.out (by omega) (by omega))
 rw [←hq] at RR ⊢
 have hqm:q≤m:=by rw [hq];exact Nat.div_le_self _ _
 have hql:(limbs q).length≤(limbs m).length:=limbs_len_mono hqm
 have hle:q*2^(j+1)≤m:=by rw [hq];exact Nat.div_mul_le_self _ _
 have hml:(limbs (q*2^(j+1))).length≤(limbs m).length:=limbs_len_mono hle
 have hrest:m-q*2^(j+1)=m%2^(j+1):=by
  rw [hq];have:=Nat.div_add_mod m (2^(j+1));rw [Nat.mul_comm] at this;omega
 have hj1:0<((j+1:Nat):Int):=by omega
 by_cases hl:lostB m (j+1)=false
 ·have hz: ¬m%2^(j+1)≠0:=by unfold lostB at hl;simpa using hl
  rw [if_neg (fun h=>hz h.1)]
  rw [hl] at RR ⊢
  clear hq hqm hql hle hml hrest hz hl
  go_enter Tryz.func152,Tryz.ntmps152
  go_wp2_with (go_at_call 213;(with_reducible refine RR.out.mono ?_);rintro e w1 ⟨a1,rfl,hN1,hb1⟩)
  go_ret2
  exact ⟨_,rfl,hN1,hb1⟩
 ·have hl1:lostB m (j+1)=true:=by simpa using hl
  have hz:m%2^(j+1)≠0:=by unfold lostB at hl1;simpa using hl1
  rw [hl1] at RR ⊢
  obtain ⟨rest,hrs⟩: ∃r,r=m%2^(j+1):=⟨_,rfl⟩
  rw [←hrs] at hz hrest ⊢
  have hrl:(limbs rest).length≤(limbs m).length:=limbs_len_mono (by rw [hrs];exact Nat.mod_le _ _)
  obtain ⟨half,hhalf⟩: ∃x,x=cmpI (rest:Int) ((2^j:Nat):Int):=⟨_,rfl⟩
  obtain ⟨up,hup⟩: ∃x,x=upN neg (decide ((q:Int)%2=1)) half mode:=⟨_,rfl⟩
  have UP:=hid (show ∀od w,od=decide ((q:Int)%2=1)→Calls Tryz.prog 214 #[.bool neg,.bool od,.int .i64 half,.int .i64 mode] w fun e w'=>e=.returned (.bool up)∧w=w' from fun od w h=>by subst h;rw [hup];exact up_any _ _ _ _ w)
  have CM:=hid (show ∀a b c d w,Ns .u32 w a c (limbs rest)→Ns .u32 w b d (limbs (2^j))→Calls Tryz.prog 210 #[.slice a (limbs rest).length c,.slice b (limbs (2^j)).length d] w fun e w'=>e=.returned (.int .i64 half)∧ ∃nq,w'=w.drewN nq from fun a b c d w k0 k1=>by
   have:=compare_any a b c d rest (2^j) w k0 k1
   rw [←hhalf] at this
   exact this)
  have MI:=hid (show ∀a b c d w,Ns .u32 w a c (limbs m)→Ns .u32 w b d (limbs (q*2^(j+1)))→Calls Tryz.prog 211 #[.slice a (limbs m).length c,.slice b (limbs (q*2^(j+1))).length d] w fun e w'=>RetN w rest e w' from fun a b c d w k0 k1=>by
   have:=minus_any a b c d m (q*2^(j+1)) w k0 k1 (by omega) hle
   rwa [hrest] at this)
  have LQ:=hid (show ∀a c w,Ns .u32 w a c (limbs q)→Calls Tryz.prog 172 #[.slice a (limbs q).length c,.int .i64 ((j:Int)+1)] w fun e w'=>RetN w (q*2^(j+1)) e w' from fun a c w k=>leftN_any a c q (j+1) w k (by omega) (by omega))
  have hone:(limbs 1).length≤4294967296:=by
   have:(limbs 1).length≤1:=(digs_len_le 4294967296 (by omega) 1 1).2 (by omega)
   omega
  have LO:=hid (show ∀a c w,Ns .u32 w a c (limbs 1)→Calls Tryz.prog 172 #[.slice a (limbs 1).length c,.int .i64 (j:Int)] w fun e w'=>RetN w (2^j) e w' from fun a c w k=>by have:=leftN_any a c 1 j w k hone (by omega);rwa [Nat.one_mul] at this)
  have PL:=hid (show ∀a b c d w,Ns .u32 w a c (limbs q)→Ns .u32 w b d (limbs 1)→Calls Tryz.prog 163 #[.slice a (limbs q).length c,.slice b (limbs 1).length d] w fun e w'=>RetN w (q+1) e w' from fun a b c d w k0 k1=>plus_any a b c d q 1 w k0 k1 (by omega) hone)
  have OF:=hid (show ∀w,Calls Tryz.prog 95 #[.int .u64 1] w fun e w'=>RetN w 1 e w' from fun w=>natOf_any 1 (by omega) w)
  have hodd:(decide ((q:Int)%2=1))=decide (q%2=1):=by rw [decide_eq_decide];omega
  have hjj:((j+1:Nat):Int)-1=(j:Int):=by omega
  have HRES:=hid (show (if rest≠0∧upN neg (decide ((q:Int)%2=1)) half mode=true then q+1 else q)=if up=true then q+1 else q by
   rw [←hup];by_cases hu:up=true
   ·rw [if_pos ⟨hz,hu⟩,if_pos hu]
   ·rw [if_neg (fun h=>hu h.2),if_neg hu])
  rw [←hhalf,HRES.out]
  have HOD:=hid hodd
  clear hrs hup hhalf hrest hml hle hqm hq hl hl1 HRES hone hz hodd
  go_enter Tryz.func152,Tryz.ntmps152
  go_upto_region 8 with (first
   |(go_at_call 213;(with_reducible refine RR.out.mono ?_);rintro e w1 ⟨a1,rfl,hN1,hb1⟩)
   |(go_at_call 172;(first
    |((with_reducible refine (LQ.out _ _ _ hN1).mono ?_);rintro e w2 ⟨a2,rfl,hN2,hb2⟩)
    |((with_reducible refine (LO.out _ _ _ hN4).mono ?_);rintro e w5 ⟨a5,rfl,hN5,hb5⟩)))
   |(go_at_call 211;(with_reducible refine (MI.out _ _ _ _ _ (H.out.below (below_trans hb1 hb2)) hN2).mono ?_);rintro e w3 ⟨a3,rfl,hN3,hb3⟩)
   |(go_at_call 95;(with_reducible refine (OF.out _).mono ?_);rintro e w4 ⟨a4,rfl,hN4,hb4⟩)
   |(go_at_call 210;(with_reducible refine (CM.out _ _ _ _ _ ((hN3.below hb4).below hb5) hN5).mono ?_);rintro e w6 ⟨rfl,nq,rfl⟩))
  have y6:Below w.heap.size w (w5.drewN nq):=below_trans hb1 (below_trans hb2 (below_trans hb3 (below_trans hb4 (below_trans hb5 (below_drewN (Below.refl _ _) nq)))))
  have n6:Ns .u32 (w5.drewN nq) a1 (limbs q).length (limbs q):=hN1.below (below_trans hb2 (below_trans hb3 (below_trans hb4 (below_trans hb5 (below_drewN (Below.refl _ _) nq)))))
  clear hN1 hN2 hN3 hN4 hN5 hb2 hb3 hb4 hb5 RR CM MI LQ LO
  generalize w5.drewN nq=w6 at *
  have hcap2:=n6.2.1
  unfold maxLen at hcap2
  have N6:=hid n6
  by_cases hq0:(limbs q).length=0
  ·have hqz:q=0:=(limbs_nil q).1 (List.length_eq_zero_iff.1 hq0)
   have UP0:=hid (fun w=>UP.out false w (by subst hqz;rfl))
   have N7:=N6
   rw [hq0] at N7 PL ⊢
   clear n6 hqz
   go_upto_if 55 with (go_at_call 214;(with_reducible refine (UP0.out _).mono ?_);rintro e w7 ⟨rfl,rfl⟩)
   cases up
   ·go_wp2_with fail
    go_ret2
    have:=N6.out
    rw [hq0] at this
    exact ⟨a1,by rw [hq0];rfl,by rw [hq0];exact this,y6⟩
   ·go_wp2_with (first
     |(go_at_call 95;(with_reducible refine (OF.out _).mono ?_);rintro e w8 ⟨a8,rfl,hN8,hb8⟩)
     |(go_at_call 163;(with_reducible refine (PL.out _ _ _ _ _ (N7.out.below hb8) hN8).mono ?_);rintro e w9 ⟨a9,rfl,hN9,hb9⟩))
    go_ret2
    exact ⟨_,rfl,hN9,below_trans (below_trans y6 hb8) hb9⟩
  ·obtain ⟨b1,o1,rfl,hc1⟩:=n6.2.2 (by omega)
   obtain ⟨x,hx⟩: ∃x,x=(limbs q).getD 0 0:=⟨_,rfl⟩
   have k1:w6.cell? ⟨b1,o1,none⟩=some (.int .u32 (x:Int)):=by have:=hc1 0 (by omega);rw [hx];exact this
   have hxo:x%2=q%2:=by rw [hx];exact limbs_odd q (by omega)
   have hx2:x<4294967296:=by rw [hx];exact (limbs_lim q).getD (by omega) 0
   have hpos:0<(limbs q).length:=by omega
   have hx3:(x:Int)%2=0∨(x:Int)%2=1:=by omega
   have UP0:=hid (fun w=>UP.out ((x:Int)%2==1) w (by
    rw [Bool.eq_iff_iff,beq_iff_eq,decide_eq_true_eq];omega))
   clear n6 hc1 hx hxo hq0
   go_upto_if 55 with (go_at_call 214;(with_reducible refine (UP0.out _).mono ?_);rintro e w7 ⟨rfl,rfl⟩)
   cases up
   ·go_wp2_with fail
    go_ret2
    exact ⟨_,rfl,N6.out,y6⟩
   ·go_wp2_with (first
     |(go_at_call 95;(with_reducible refine (OF.out _).mono ?_);rintro e w8 ⟨a8,rfl,hN8,hb8⟩)
     |(go_at_call 163;(with_reducible refine (PL.out _ _ _ _ _ (N6.out.below hb8) hN8).mono ?_);rintro e w9 ⟨a9,rfl,hN9,hb9⟩))
    go_ret2
    exact ⟨_,rfl,hN9,below_trans (below_trans y6 hb8) hb9⟩
theorem cut_any (neg:Bool) (a0:Option Addr) (c0 m:Nat) (k mode:Int) (w:World) (h0:Ns .u32 w a0 c0 (limbs m)) (hm:(limbs m).length≤1000000) (hk: -1000000≤k∧k≤1000000):
 Calls Tryz.prog 152 #[.bool neg,.slice a0 (limbs m).length c0,.int .i64 k,.int .i64 mode] w fun e w'=>RetN2 w (cutN neg m k mode) (.bool (cutC m k)) e w':=by
 by_cases h:k≤0
 ·obtain ⟨n,rfl⟩: ∃n:Nat,k= -(n:Int):=⟨(-k).toNat,by omega⟩
  rw [(cut_neg neg m n mode).1,(cut_neg neg m n mode).2]
  exact cut_left neg a0 c0 m n mode w h0 hm (by omega)
 ·obtain ⟨j,rfl⟩: ∃j:Nat,k=((j+1:Nat):Int):=⟨(k-1).toNat,by omega⟩
  exact cut_right neg a0 c0 m j mode w h0 hm (by omega)
end Go.Proofs.YtfphmlmgjhebjaaGreatDoor
namespace Go.Ulp
open Go.RowKit
def dyB (n:Nat) (e:Int):Bool:=decide (n≤400∧ -10000≤e∧e≤10000)
def bndE (n:Nat) (e:Int):Int:=if dyB n e=true then 0 else 2
def dyadE (neg:Bool) (L:List Nat) (e:Int):Int:=
 if dyB L.length e=false then 2 else if L.length=0 then (if neg=true∨e≠0 then 3 else 0) else if L.getD (L.length-1) 0=0∨L.getD 0 0%2=0 then 3 else 0
theorem dyB_true {n:Nat} {e:Int} (h:dyB n e=true):n≤400∧ -10000≤e∧e≤10000:=by simpa [dyB] using h
theorem dyad_cases (neg:Bool) (ao:Option Addr) (cap:Nat) (L:List Nat) (e:Int) (w:World) (hN:Ns .u32 w ao cap L) (hl:Lim L):
 (dyB L.length e=false∧Hid (dyadE neg L e=2))∨
 (dyB L.length e=true∧L.length=0∧neg=true∧Hid (dyadE neg L e=3))∨
 (dyB L.length e=true∧L.length=0∧neg=false∧(e==0)=false∧(e !=0)=true∧Hid (dyadE neg L e=3))∨
 (dyB L.length e=true∧L.length=0∧neg=false∧e=0∧Hid (dyadE neg L e=0))∨
 (dyB L.length e=true∧ ∃n b off x y,L.length=n∧ao=some ⟨b,off,none⟩∧0<n∧n≤400∧w.cell? ⟨b,off,none⟩=some (.int .u32 x)∧w.cell? ⟨b,off+(n-1),none⟩=some (.int .u32 y)∧0≤x∧x<4294967296∧
  ((((x%2==0)=true∨((x%2==0)=false∧(y==0)=true))∧Hid (dyadE neg L e=3))∨((x%2==0)=false∧(y==0)=false∧Hid (dyadE neg L e=0)))):=by
 by_cases hB:dyB L.length e=false
 ·exact .inl ⟨hB,by unfold dyadE;rw [if_pos hB];exact hid rfl⟩
 have hB2:dyB L.length e=true:=by simpa using hB
 by_cases h0:L.length=0
 ·cases neg
  ·by_cases he:e=0
   ·exact .inr (.inr (.inr (.inl ⟨hB2,h0,rfl,he,by unfold dyadE;rw [if_neg hB,if_pos h0,if_neg (by simp [he])];exact hid rfl⟩)))
   ·exact .inr (.inr (.inl ⟨hB2,h0,rfl,beq_eq_false_iff_ne.2 he,by simp [he],by unfold dyadE;rw [if_neg hB,if_pos h0,if_pos (.inr he)];exact hid rfl⟩))
  ·exact .inr (.inl ⟨hB2,h0,rfl,by unfold dyadE;rw [if_neg hB,if_pos h0,if_pos (.inl rfl)];exact hid rfl⟩)
 ·obtain ⟨b,off,rfl,hc⟩:=hN.2.2 (by omega)
  have h1:=hc 0 (by omega)
  have h2:=hc (L.length-1) (by omega)
  unfold lb at h1 h2
  have hx:=hl.getD (by omega) 0
  have hn4:=(dyB_true hB2).1
  refine .inr (.inr (.inr (.inr ⟨hB2,_,b,off,_,_,rfl,rfl,by omega,hn4,h1,h2,by omega,by omega,?_⟩)))
  have hE:dyadE neg L e=if L.getD (L.length-1) 0=0∨L.getD 0 0%2=0 then 3 else 0:=by unfold dyadE;rw [if_neg hB,if_neg h0]
  rw [hE]
  by_cases hx2:L.getD 0 0%2=0
  ·exact .inl ⟨.inl (beq_iff_eq.2 (by omega)),by rw [if_pos (.inr hx2)];exact hid rfl⟩
  ·by_cases hy:L.getD (L.length-1) 0=0
   ·exact .inl ⟨.inr ⟨beq_eq_false_iff_ne.2 (by omega),beq_iff_eq.2 (by omega)⟩,by rw [if_pos (.inl hy)];exact hid rfl⟩
   ·exact .inr ⟨beq_eq_false_iff_ne.2 (by omega),beq_eq_false_iff_ne.2 (by omega),by rw [if_neg (fun h=>h.elim hy hx2)];exact hid rfl⟩
theorem dyadE_zero {neg:Bool} {L:List Nat} {e:Int} (hl:Lim L) (h:dyadE neg L e=0):L.length≤400∧ -10000≤e∧e≤10000∧L=limbs (lval L)∧(lval L=0→neg=false∧e=0)∧(lval L≠0→lval L%2=1):=by
 unfold dyadE at h
 by_cases hB:dyB L.length e=false
 ·rw [if_pos hB] at h;omega
 rw [if_neg hB] at h
 obtain ⟨b1,b2,b3⟩:=dyB_true (by simpa using hB)
 by_cases h0:L.length=0
 ·have:=List.length_eq_zero_iff.1 h0
  subst this
  rw [if_pos h0] at h
  by_cases hq:neg=true∨e≠0
  ·rw [if_pos hq] at h;omega
  ·refine ⟨b1,b2,b3,rfl,fun _=>?_,fun h=>absurd rfl h⟩
   constructor
   ·cases neg
    ·rfl
    ·exact absurd (.inl rfl) hq
   ·exact Classical.byContradiction fun he=>hq (.inr he)
 ·rw [if_neg h0] at h
  by_cases hq:L.getD (L.length-1) 0=0∨L.getD 0 0%2=0
  ·rw [if_pos hq] at h;omega
  ·have ht:Trim L:=(trim_iff L).2 (.inr (fun h=>hq (.inl h)))
   have hs:=limbs_self hl ht
   have h1:=val_drop 4294967296 L 0 (by omega)
   rw [List.drop_zero] at h1
   have hod:lval L%2=1:=by
    have: ¬L.getD 0 0%2=0:=fun h=>hq (.inr h)
    unfold lval;omega
   exact ⟨b1,b2,b3,hs.symm,fun h=>by omega,fun _=>hod⟩
end Go.Ulp
namespace Go.Proofs.YtfphmlmgjhebjaaGreatDoor
open Go.RowKit Go.Ulp
set_option maxHeartbeats 1000000
set_option maxRecDepth 100000
theorem bounds_any (neg:Bool) (v:Option Addr) (n cap:Nat) (e:Int) (w:World):
 Calls Tryz.prog 151 #[.agg #[.bool neg,.slice v n cap,.int .i64 e]] w fun en w'=>en=.returned (.int .i64 (bndE n e))∧Below w.heap.size w w':=by
 by_cases h4:n≤400
 ·have h5: ¬(400<(n:Int)):=by omega
  by_cases h1:e< -10000
  ·have H:=hid (show 2=bndE n e by unfold bndE;rw [if_neg (by simp [dyB];omega)])
   clear h4
   go_enter Tryz.func151,Tryz.ntmps151
   go_wp2_with fail
   go_ret
   exact ⟨ret_int H.out,below_alloc _ _⟩
  ·by_cases h2:10000<e
   ·have H:=hid (show 2=bndE n e by unfold bndE;rw [if_neg (by simp [dyB];omega)])
    clear h4
    go_enter Tryz.func151,Tryz.ntmps151
    go_wp2_with fail
    go_ret
    exact ⟨ret_int H.out,below_alloc _ _⟩
   ·have H:=hid (show 0=bndE n e by unfold bndE;rw [if_pos (by simp [dyB];omega)])
    clear h4
    go_enter Tryz.func151,Tryz.ntmps151
    go_wp2_with fail
    go_ret
    exact ⟨ret_int H.out,below_alloc _ _⟩
 ·have h5:(400<(n:Int)):=by omega
  have H:=hid (show 2=bndE n e by unfold bndE;rw [if_neg (by simp [dyB];omega)])
  clear h4
  go_enter Tryz.func151,Tryz.ntmps151
  go_wp2_with fail
  go_ret
  exact ⟨ret_int H.out,below_alloc _ _⟩
theorem bndE_true {n:Nat} {e:Int} (h:dyB n e=true):bndE n e=0:=by unfold bndE;rw [if_pos h]
theorem bndE_false {n:Nat} {e:Int} (h:dyB n e=false):bndE n e=2:=by unfold bndE;rw [h];rfl
theorem dyadCheck_any (neg:Bool) (ao:Option Addr) (cap:Nat) (L:List Nat) (e:Int) (w:World) (hN:Ns .u32 w ao cap L) (hl:Lim L):
 Calls Tryz.prog 85 #[.agg #[.bool neg,.slice ao L.length cap,.int .i64 e]] w fun en w'=>en=.returned (.int .i64 (dyadE neg L e))∧Below w.heap.size w w':=by
 have zA:QL 67 (w.alloc (.cells #[.bool neg,.slice ao L.length cap,.int .i64 e] 67)) w.heap.size neg (.slice ao L.length cap) e:=QL.made rfl
 have yb0:=below_alloc w (.cells #[.bool neg,.slice ao L.length cap,.int .i64 e] 67)
 have BD:=hid (fun w=>bounds_any neg ao L.length cap e w)
 have hcap:=hN.1
 have hcap2:=hN.2.1
 unfold maxLen at hcap2
 rcases dyad_cases neg ao cap L e w hN hl with ⟨hB,HE⟩|⟨hB,h0,rfl,HE⟩|⟨hB,h0,rfl,he1,he2,HE⟩|⟨hB,h0,rfl,rfl,HE⟩|⟨hB,n,b,off,x,y,hn,ha,hn0,hn4,hc1,hc2,hx0,hx1,hxy⟩
 ·rw [bndE_false hB] at BD
  clear hB hN
  go_enter Tryz.func85,Tryz.ntmps85
  go_upto_region 1 with fail
  go_wp2_with (go_at_call 151;(with_reducible refine (BD.out _).mono ?_);rintro en w1 ⟨rfl,hb1⟩)
  go_ret
  exact ⟨ret_int HE.out.symm,below_trans yb0 hb1⟩
 ·rw [bndE_true hB] at BD
  rw [h0] at BD zA yb0 ⊢
  clear hB hN h0 hcap
  go_enter Tryz.func85,Tryz.ntmps85
  go_upto_region 2 with (go_at_call 151;(with_reducible refine (BD.out _).mono ?_);rintro en w1 ⟨rfl,hb1⟩)
  obtain ⟨⟨j0,j1,-,-,-⟩,j2,-⟩:=zA.below hb1
  go_wp2_with fail
  all_goals
   go_ret
   exact ⟨ret_int HE.out.symm,below_trans yb0 hb1⟩
 ·rw [bndE_true hB] at BD
  rw [h0] at BD zA yb0 ⊢
  clear hB hN h0 hcap
  go_enter Tryz.func85,Tryz.ntmps85
  go_upto_region 2 with (go_at_call 151;(with_reducible refine (BD.out _).mono ?_);rintro en w1 ⟨rfl,hb1⟩)
  obtain ⟨⟨j0,j1,-,-,-⟩,j2,-⟩:=zA.below hb1
  go_wp2_with fail
  all_goals
   go_ret
   exact ⟨ret_int HE.out.symm,below_trans yb0 hb1⟩
 ·rw [bndE_true hB] at BD
  rw [h0] at BD zA yb0 ⊢
  clear hB hN h0 hcap
  go_enter Tryz.func85,Tryz.ntmps85
  go_upto_region 2 with (go_at_call 151;(with_reducible refine (BD.out _).mono ?_);rintro en w1 ⟨rfl,hb1⟩)
  obtain ⟨⟨j0,j1,-,-,-⟩,j2,-⟩:=zA.below hb1
  go_wp2_with fail
  all_goals
   go_ret
   exact ⟨ret_int HE.out.symm,below_trans yb0 hb1⟩
 ·rw [bndE_true hB] at BD
  subst ha
  rw [hn] at BD zA yb0 hcap ⊢
  have hc1:=(yb0.cell (World.block_lt_of_cell? _ _ hc1)).trans hc1
  have hc2:=(yb0.cell (World.block_lt_of_cell? _ _ hc2)).trans hc2
  have hcast:((n:Int)-1).toNat=n-1:=by omega
  clear hB hN hn
  rcases hxy with ⟨hx|⟨hx,hy⟩,HE⟩|⟨hx,hy,HE⟩
  ·rcases (show (y==0)=true∨(y==0)=false by cases (y==0)<;>simp) with hy|hy
   all_goals
    go_enter Tryz.func85,Tryz.ntmps85
    go_upto_region 2 with (go_at_call 151;(with_reducible refine (BD.out _).mono ?_);rintro en w1 ⟨rfl,hb1⟩)
    obtain ⟨⟨j0,j1,-,-,-⟩,j2,-⟩:=zA.below hb1
    have hc3:=(hb1.cell (World.block_lt_of_cell? _ _ hc1)).trans hc1
    have hc4:=(hb1.cell (World.block_lt_of_cell? _ _ hc2)).trans hc2
    go_wp2_with fail
    go_ret
    exact ⟨ret_int HE.out.symm,below_trans yb0 hb1⟩
  all_goals
   go_enter Tryz.func85,Tryz.ntmps85
   go_upto_region 2 with (go_at_call 151;(with_reducible refine (BD.out _).mono ?_);rintro en w1 ⟨rfl,hb1⟩)
   obtain ⟨⟨j0,j1,-,-,-⟩,j2,-⟩:=zA.below hb1
   have hc3:=(hb1.cell (World.block_lt_of_cell? _ _ hc1)).trans hc1
   have hc4:=(hb1.cell (World.block_lt_of_cell? _ _ hc2)).trans hc2
   go_wp2_with fail
   go_ret
   exact ⟨ret_int HE.out.symm,below_trans yb0 hb1⟩
end Go.Proofs.YtfphmlmgjhebjaaGreatDoor
namespace Go.Ulp
open Go.RowKit
def DC (w:World) (g o:Nat) (neg:Bool) (v:Value) (e:Int):Prop:=w.cell? ⟨g,o,none⟩=some (.bool neg)∧w.cell? ⟨g,o+1,none⟩=some v∧w.cell? ⟨g,o+2,none⟩=some (.int .i64 e)
theorem DC.below {w w':World} {g o:Nat} {neg:Bool} {v:Value} {e:Int} (h:DC w g o neg v e) (hb:Below w.heap.size w w'):DC w' g o neg v e:=by
 obtain ⟨h1,h2,h3⟩:=h
 exact ⟨(hb.cell (World.block_lt_of_cell? _ _ h1)).trans h1,(hb.cell (World.block_lt_of_cell? _ _ h2)).trans h2,(hb.cell (World.block_lt_of_cell? _ _ h3)).trans h3⟩
theorem cell_set_ne {w:World} {g o o':Nat} {u:Value} (h:o≠o'):(w.setCell ⟨g,o,none⟩ u).cell? ⟨g,o',none⟩=w.cell? ⟨g,o',none⟩:=by
 rw [World.cell?_setCell_other]
 intro e
 injection e with _ e2 _
 exact h e2
theorem Ns.set3 {t:TypeId} {w:World} {ao:Option Addr} {cap:Nat} {L:List Nat} {g:Nat} {n:Bool} {v:Value} {k:Int} (h:Ns .u32 w ao cap L) (z:QL t w g n v k) (hv: ∀x,v≠ .int .u32 x) (u0 u1 u2:Value):
 Ns .u32 (((w.setCell ⟨g,0,none⟩ u0).setCell ⟨g,1,none⟩ u1).setCell ⟨g,2,none⟩ u2) ao cap L:=by
 have h1:=Ns.setCell_kind h ⟨g,0,none⟩ u0 (.bool n) z.1.1 (by intro x e;cases e)
 have h2:=Ns.setCell_kind h1 ⟨g,1,none⟩ u1 v ((cell_set_ne (by omega)).trans z.1.2.1) hv
 exact Ns.setCell_kind h2 ⟨g,2,none⟩ u2 (.int .i64 k) ((cell_set_ne (by omega)).trans ((cell_set_ne (by omega)).trans z.2.1)) (by intro x e;cases e)
end Go.Ulp
namespace Go.Proofs.YtfphmlmgjhebjaaGreatDoor
open Go.RowKit Go.Ulp
set_option maxHeartbeats 1000000
set_option maxRecDepth 100000
end Go.Proofs.YtfphmlmgjhebjaaGreatDoor
