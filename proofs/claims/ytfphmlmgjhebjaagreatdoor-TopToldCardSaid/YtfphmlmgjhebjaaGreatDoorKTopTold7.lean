/- TopTold: what the proof leans on, part 7 (Rn1 Rp1). -/
import Derived.Test.YtfphmlmgjhebjaaGreatDoorKTopTold1
import Derived.Test.YtfphmlmgjhebjaaGreatDoorKTopTold2
import Derived.Test.YtfphmlmgjhebjaaGreatDoorKTopTold3
import Derived.Test.YtfphmlmgjhebjaaGreatDoorKTopTold5
import Derived.Test.YtfphmlmgjhebjaaGreatDoorKTopTold6
set_option linter.unusedVariables false
set_option linter.unusedSimpArgs false
namespace Go.Ulp
def IsLow (c:Int→Int) (l:Int):Prop:= -9218868437227405312≤l∧l<9218868437227405312∧(l= -9218868437227405312∨c l≤0)∧(l+1=9218868437227405312∨0<c (l+1))
def upR (neg:Bool) (mode near high:Int):Bool:=
 if near=0∧mode=0 then decide (high%2=0) else if near=0∧mode=4 then !neg else decide (mode=1∨(mode=3∧neg=true)∨((mode=0∨mode=4)∧0<near))
def tellR (neg:Bool) (r:Int):Int:=if r=0∧neg=true then 9223372036854775808 else ranked r
def ansR (c cm:Int→Int) (cz mode l:Int):Int×Bool:=
 if -9218868437227405312<l∧c l=0 then (ranked l,false) else if upR (decide (cz<0)) mode (cm l) (l+1)=true then (tellR (decide (cz<0)) (l+1),true) else (tellR (decide (cz<0)) l,true)
def rT (s:Nat) (r:Int):Int:=rvs r*pw s
def cR (s:Nat) (V r:Int):Int:=cmpI (rT s r) V
def cM (s:Nat) (V r:Int):Int:=cmpI (2*V) (rT s r+rT s (r+1))
def Rnd (s:Nat) (V mode x:Int) (ch:Bool):Prop:= ∃l,IsLow (cR s V) l∧(x,ch)=ansR (cR s V) (cM s V) (cmpI V 0) mode l
theorem cmpI_le (a b:Int):cmpI a b≤0↔a≤b:=by unfold cmpI;split<;>(try split)<;>omega
theorem cmpI_gt (a b:Int):0<cmpI a b↔b<a:=by unfold cmpI;split<;>(try split)<;>omega
theorem cmpI_lt (a b:Int):cmpI a b<0↔a<b:=by unfold cmpI;split<;>(try split)<;>omega
theorem rT_mono (s:Nat) {a b:Int} (h:a<b):rT s a<rT s b:=(pw_lt s).2 (rvs_mono h)
theorem rT_le (s:Nat) {a b:Int} (h:a≤b):rT s a≤rT s b:=by
 rcases Int.lt_or_eq_of_le h with h|h
 ·exact Int.le_of_lt (rT_mono s h)
 ·rw [h];exact Int.le_refl _
theorem rT_nat (s R:Nat):rT s (R:Int)=((rvi R*2^s:Nat):Int):=by
 unfold rT rvs;rw [if_neg (by omega),Int.natAbs_natCast,pw_nat,Int.natCast_mul]
theorem rT_neg (s:Nat) (r:Int):rT s (-r)= -rT s r:=by unfold rT;rw [rvs_neg,Int.neg_mul]
theorem low_uniq {s:Nat} {V l m:Int} (h:IsLow (cR s V) l) (k:IsLow (cR s V) m):l=m:=by
 have key: ∀ {l m:Int},IsLow (cR s V) l→IsLow (cR s V) m→ ¬l<m:=by
  intro l m h k hlt
  obtain ⟨h0,h1,h2,h3⟩:=h
  obtain ⟨k0,k1,k2,k3⟩:=k
  have a1:0<cR s V (l+1):=by rcases h3 with h3|h3
                             ·omega
                             ·exact h3
  have a2:cR s V m≤0:=by rcases k2 with k2|k2
                         ·omega
                         ·exact k2
  have b1:=(cmpI_gt _ _).1 a1
  have b2:=(cmpI_le _ _).1 a2
  have b3:=rT_le s (show l+1≤m by omega)
  omega
 have:=key h k
 have:=key k h
 omega
theorem Rnd.uniq {s:Nat} {V mode x y:Int} {ch dh:Bool} (h:Rnd s V mode x ch) (k:Rnd s V mode y dh):x=y∧ch=dh:=by
 obtain ⟨l,h1,h2⟩:=h
 obtain ⟨m,k1,k2⟩:=k
 have e:=low_uniq h1 k1
 subst e
 rw [←k2] at h2
 exact Prod.mk.inj h2
theorem Rnd.same {s t:Nat} {V U mode x:Int} {ch:Bool} (h:Rnd s V mode x ch) (h1: ∀r,cR s V r=cR t U r) (h2: ∀r,cM s V r=cM t U r) (h3:cmpI V 0=cmpI U 0):Rnd t U mode x ch:=by
 obtain ⟨l,a,b⟩:=h
 have e1:cR s V=cR t U:=funext h1
 have e2:cM s V=cM t U:=funext h2
 rw [e1] at a
 rw [e1,e2,h3] at b
 exact ⟨l,a,b⟩
def upN (neg odd:Bool) (half mode:Int):Bool:=if mode=1 then !neg else if mode=2 then neg else if mode=3 then false else if mode=4 then decide (0≤half) else decide (0<half∨(half=0∧odd=true))
def overA (neg:Bool) (mode:Int):Bool:=decide (mode=0∨mode=4∨(mode=1∧neg=false)∨(mode=2∧neg=true))
def sgb (neg:Bool):Int:=if neg then 9223372036854775808 else 0
def capX (neg:Bool) (mode:Int) (R:Int):Int:=if 9218868437227405312≤R then (if overA neg mode=true then 9218868437227405312 else 9218868437227405311)+sgb neg else R+sgb neg
def capC (R:Int) (ch:Bool):Bool:=if 9218868437227405312≤R then true else ch
theorem rvi_top (R:Nat) (h:9218868437227405312≤R):rvi 9218868437227405312≤rvi R:=by
 rcases Nat.lt_or_eq_of_le h with h|h
 ·exact Nat.le_of_lt (rvi_mono h)
 ·rw [h];exact Nat.le_refl _
theorem up_pos (near mode R:Int) (h0:0≤mode) (h1:mode≤4):upR false mode near (R+1)=upN false (decide (R%2=1)) near mode:=by
 have:mode=0∨mode=1∨mode=2∨mode=3∨mode=4:=by omega
 unfold upR upN
 rcases this with rfl|rfl|rfl|rfl|rfl
 ·by_cases h:near=0
  ·subst h;simp;omega
  ·simp [h]
 ·simp
 ·simp
 ·simp
 ·by_cases h:near=0
  ·subst h;simp
  ·simp [h];omega
theorem up_neg (near mode R:Int) (h0:0≤mode) (h1:mode≤4):upR true mode (-near) (-R)=!upN true (decide (R%2=1)) near mode:=by
 have:mode=0∨mode=1∨mode=2∨mode=3∨mode=4:=by omega
 rw [Bool.eq_iff_iff,Bool.not_eq_true']
 unfold upR upN
 rcases this with rfl|rfl|rfl|rfl|rfl
 ·by_cases h:near=0
  ·subst h
   rcases Int.emod_two_eq R with e|e
   ·have: -R%2=0:=by omega
    simp [e,this]
   ·have: ¬ -R%2=0:=by omega
    simp [e,this]
  ·have: ¬ -near=0:=by omega
   simp [h,this];omega
 ·simp
 ·simp
 ·simp
 ·by_cases h:near=0
  ·subst h;simp
  ·have: ¬ -near=0:=by omega
   simp [h,this]
theorem up_over_pos {odd:Bool} {near mode:Int} (h0:0≤mode) (h1:mode≤4) (h:upN false odd near mode=true):overA false mode=true:=by
 have:mode=0∨mode=1∨mode=2∨mode=3∨mode=4:=by omega
 rcases this with rfl|rfl|rfl|rfl|rfl<;>simp [upN,overA] at h ⊢
theorem up_over_neg {odd:Bool} {near mode:Int} (h0:0≤mode) (h1:mode≤4) (h:upN true odd near mode=true):overA true mode=true:=by
 have:mode=0∨mode=1∨mode=2∨mode=3∨mode=4:=by omega
 rcases this with rfl|rfl|rfl|rfl|rfl<;>simp [upN,overA] at h ⊢
theorem cmpI_neg_neg (a b:Int):cmpI (-a) (-b)= -cmpI a b:=by unfold cmpI;split<;>split<;>(try split)<;>(try split)<;>omega
theorem cmpI_shift (a b c:Int):cmpI (a+c) (b+c)=cmpI a b:=by unfold cmpI;split<;>split<;>(try split)<;>(try split)<;>omega
theorem ranked_pos (r:Int) (h:0≤r):ranked r=r:=by unfold ranked;rw [if_neg (by omega)]
theorem ranked_negv (r:Int) (h:r<0):ranked r=9223372036854775808+ -r:=by unfold ranked;rw [if_pos h]
theorem tell_pos (r:Int) (h:0≤r):tellR false r=r:=by unfold tellR;rw [if_neg (by simp),ranked_pos r h]
theorem tell_neg (r:Int) (h:r≤0):tellR true r=9223372036854775808+ -r:=by
 unfold tellR
 by_cases h0:r=0
 ·subst h0;rw [if_pos ⟨rfl,rfl⟩];rfl
 ·rw [if_neg (fun h=>h0 h.1),ranked_negv r (by omega)]
theorem rnd_core_pos (s R t P rest:Nat) (mode:Int) (h0:rvi R*2^s=t) (h1:rvi (R+1)*2^s=t+P) (hr:rest<P) (m0:0≤mode) (m1:mode≤4) (Rr:Int)
 (hR:Rr=if rest≠0∧upN false (decide ((R:Int)%2=1)) (cmpI (2*(rest:Int)) P) mode=true then (R:Int)+1 else R):
 Rnd s ((t+rest:Nat):Int) mode (capX false mode Rr) (capC Rr (decide (rest≠0))):=by
 have T0:rT s (R:Int)=(t:Int):=by rw [rT_nat,h0]
 have T1:rT s ((R:Int)+1)=(t:Int)+P:=by rw [show (R:Int)+1=((R+1:Nat):Int) by omega,rT_nat,h1];omega
 have cz:decide (cmpI ((t+rest:Nat):Int) 0<0)=false:=decide_eq_false (by rw [cmpI_lt];omega)
 by_cases hlt:R<9218868437227405312
 ·refine ⟨R,⟨by omega,by omega,.inr ?_,.inr ?_⟩,?_⟩
  ·unfold cR;rw [T0,cmpI_le];omega
  ·unfold cR;rw [T1,cmpI_gt];omega
  ·unfold ansR
   by_cases hz:rest=0
   ·subst hz
    rw [if_neg (by simp)] at hR
    subst hR
    rw [if_pos ⟨by omega,by unfold cR;rw [T0,cmpI_eq_zero];rfl⟩]
    unfold capX capC
    rw [if_neg (by omega),if_neg (by omega),ranked_pos _ (by omega)];simp [sgb]
   ·rw [if_neg (fun h=>by have:=h.2;unfold cR at this;rw [T0,cmpI_eq_zero] at this;omega),cz]
    have en:cM s ((t+rest:Nat):Int) R=cmpI (2*(rest:Int)) P:=by
     unfold cM;rw [T0,T1,←cmpI_shift (2*(rest:Int)) P (2*(t:Int))];congr 1<;>omega
    rw [en,up_pos _ _ _ m0 m1]
    by_cases hu:upN false (decide ((R:Int)%2=1)) (cmpI (2*(rest:Int)) P) mode=true
    ·rw [if_pos ⟨hz,hu⟩] at hR
     subst hR
     rw [if_pos hu,tell_pos _ (by omega)]
     unfold capX capC
     by_cases ho:(9218868437227405312:Int)≤R+1
     ·rw [if_pos ho,if_pos ho,if_pos (up_over_pos m0 m1 hu)];simp [sgb];omega
     ·rw [if_neg ho,if_neg ho];simp [sgb,hz]
    ·rw [if_neg (fun h=>hu h.2)] at hR
     subst hR
     rw [if_neg hu,tell_pos _ (by omega)]
     unfold capX capC
     rw [if_neg (by omega),if_neg (by omega)];simp [sgb,hz]
 ·have g1:=rvi_top R (by omega)
  have g2:rvi 9218868437227405311<rvi 9218868437227405312:=rvi_mono (by omega)
  have e1:rT s 9218868437227405312≤(t:Int):=by
   rw [←T0];exact rT_le s (by omega)
  have e2:rT s 9218868437227405311<rT s 9218868437227405312:=rT_mono s (by omega)
  refine ⟨9218868437227405311,⟨by omega,by omega,.inr ?_,.inl rfl⟩,?_⟩
  ·unfold cR;rw [cmpI_le];omega
  ·unfold ansR
   rw [if_neg (fun h=>by have:=h.2;unfold cR at this;rw [cmpI_eq_zero] at this;omega),cz]
   have en:cM s ((t+rest:Nat):Int) 9218868437227405311=1:=by
    unfold cM cmpI
    rw [show (9218868437227405311:Int)+1=9218868437227405312 from rfl,if_neg (by omega),if_pos (by omega)]
   rw [en,show (9218868437227405311:Int)+1=9218868437227405312 from rfl,tell_pos _ (by omega),tell_pos _ (by omega)]
   have hb:(9218868437227405312:Int)≤Rr:=by subst hR;split<;>omega
   unfold capX capC
   rw [if_pos hb,if_pos hb]
   have:upR false mode 1 9218868437227405312=overA false mode:=by
    have:mode=0∨mode=1∨mode=2∨mode=3∨mode=4:=by omega
    rcases this with rfl|rfl|rfl|rfl|rfl<;>simp [upR,overA]
   rw [this]
   simp only [sgb]
   split<;>simp
theorem rnd_core_neg (s R t P rest:Nat) (mode:Int) (h0:rvi R*2^s=t) (h1:rvi (R+1)*2^s=t+P) (hr:rest<P) (hpos:0<t+rest) (m0:0≤mode) (m1:mode≤4) (Rr:Int)
 (hR:Rr=if rest≠0∧upN true (decide ((R:Int)%2=1)) (cmpI (2*(rest:Int)) P) mode=true then (R:Int)+1 else R):
 Rnd s (-((t+rest:Nat):Int)) mode (capX true mode Rr) (capC Rr (decide (rest≠0))):=by
 have T0:rT s (-(R:Int))= -(t:Int):=by rw [rT_neg,rT_nat,h0]
 have T1:rT s (-((R:Int)+1))= -((t:Int)+P):=by rw [rT_neg,show (R:Int)+1=((R+1:Nat):Int) by omega,rT_nat,h1];omega
 have cz:decide (cmpI (-((t+rest:Nat):Int)) 0<0)=true:=decide_eq_true (by rw [cmpI_lt];omega)
 by_cases hlt:R<9218868437227405312
 ·by_cases hz:rest=0
  ·subst hz
   rw [if_neg (by simp)] at hR
   subst hR
   have hRp:0<R:=by
    rcases Nat.eq_zero_or_pos R with e|e
    ·subst e;rw [rvi_zero] at h0;omega
    ·exact e
   have T2:=rT_mono s (show -(R:Int)< -(R:Int)+1 by omega)
   refine ⟨-R,⟨by omega,by omega,.inr ?_,.inr ?_⟩,?_⟩
   ·unfold cR;rw [T0,cmpI_le];omega
   ·unfold cR;rw [cmpI_gt];omega
   ·unfold ansR
    rw [if_pos ⟨by omega,by unfold cR;rw [T0,cmpI_eq_zero];omega⟩]
    unfold capX capC
    rw [if_neg (by omega),if_neg (by omega),ranked_negv _ (by omega)];simp [sgb];omega
  ·refine ⟨-((R:Int)+1),⟨by omega,by omega,.inr ?_,.inr ?_⟩,?_⟩
   ·unfold cR;rw [T1,cmpI_le];omega
   ·unfold cR;rw [show -((R:Int)+1)+1= -(R:Int) by omega,T0,cmpI_gt];omega
   ·unfold ansR
    rw [if_neg (fun h=>by have:=h.2;unfold cR at this;rw [T1,cmpI_eq_zero] at this;omega),cz]
    have en:cM s (-((t+rest:Nat):Int)) (-((R:Int)+1))= -cmpI (2*(rest:Int)) P:=by
     unfold cM
     rw [show -((R:Int)+1)+1= -(R:Int) by omega,T0,T1,←cmpI_neg_neg,←cmpI_shift (-(2*(rest:Int))) (-(P:Int)) (-(2*(t:Int)))];congr 1<;>omega
    rw [en,show -((R:Int)+1)+1= -(R:Int) by omega,up_neg _ _ _ m0 m1,tell_neg _ (by omega),tell_neg _ (by omega)]
    by_cases hu:upN true (decide ((R:Int)%2=1)) (cmpI (2*(rest:Int)) P) mode=true
    ·rw [if_pos ⟨hz,hu⟩] at hR
     subst hR
     rw [hu,if_neg (by simp)]
     unfold capX capC
     by_cases ho:(9218868437227405312:Int)≤R+1
     ·rw [if_pos ho,if_pos ho,if_pos (up_over_neg m0 m1 hu)];simp [sgb];omega
     ·rw [if_neg ho,if_neg ho];simp [sgb,hz];omega
    ·rw [if_neg (fun h=>hu h.2)] at hR
     subst hR
     rw [if_pos (by simp [hu])]
     unfold capX capC
     rw [if_neg (by omega),if_neg (by omega)];simp [sgb,hz];omega
 ·have e1:rT s (-(R:Int))≤rT s (-9218868437227405312):=rT_le s (by omega)
  have e2:rT s (-9218868437227405312)<rT s (-9218868437227405311):=rT_mono s (by omega)
  refine ⟨-9218868437227405312,⟨by omega,by omega,.inl rfl,.inr ?_⟩,?_⟩
  ·unfold cR;rw [show -(9218868437227405312:Int)+1= -9218868437227405311 from rfl,cmpI_gt];omega
  ·unfold ansR
   rw [if_neg (fun h=>by have:=h.1;omega),cz]
   have en:cM s (-((t+rest:Nat):Int)) (-9218868437227405312)= -1:=by
    unfold cM cmpI
    rw [show -(9218868437227405312:Int)+1= -9218868437227405311 from rfl,if_pos (by omega)]
   rw [en,show -(9218868437227405312:Int)+1= -9218868437227405311 from rfl,tell_neg _ (by omega),tell_neg _ (by omega)]
   have hb:(9218868437227405312:Int)≤Rr:=by subst hR;split<;>omega
   unfold capX capC
   rw [if_pos hb,if_pos hb]
   have:upR true mode (-1) (-9218868437227405311)=!overA true mode:=by
    have:mode=0∨mode=1∨mode=2∨mode=3∨mode=4:=by omega
    rcases this with rfl|rfl|rfl|rfl|rfl<;>simp [upR,overA]
   rw [this]
   cases overA true mode<;>simp [sgb]
theorem rvi_parts (h q:Nat) (hq:q<9007199254740992) (hh:h=0∨4503599627370496≤q):rvi (h*4503599627370496+q)=q*2^h∧rvi (h*4503599627370496+q+1)=(q+1)*2^h:=by
 have key:rvi (h*4503599627370496+q)=q*2^h:=by
  unfold rvi
  by_cases h1:h*4503599627370496+q<4503599627370496
  ·rw [if_pos h1,show h=0 by omega];omega
  ·rw [if_neg h1]
   have:4503599627370496≤q:=by omega
   rw [show (h*4503599627370496+q)/4503599627370496-1=h by omega,show (h*4503599627370496+q)%4503599627370496+4503599627370496=q by omega]
 refine ⟨key,?_⟩
 rw [rvi_succ,key,Nat.succ_mul]
 congr 2
 omega
def cutN (neg:Bool) (M:Nat) (j mode:Int):Nat:=
 if j≤0 then M*2^(-j).toNat else if M%2^j.toNat≠0∧upN neg (decide (((M/2^j.toNat:Nat):Int)%2=1)) (cmpI ((M%2^j.toNat:Nat):Int) ((2^(j.toNat-1):Nat):Int)) mode=true then M/2^j.toNat+1 else M/2^j.toNat
def cutC (M:Nat) (j:Int):Bool:=if j≤0 then false else decide (M%2^j.toNat≠0)
def numK (M:Nat) (e:Int):Int:=max ((bl M:Int)+e-53) (-1074)
def numR (neg:Bool) (M:Nat) (e mode:Int):Int:=if M=0 then 0 else (numK M e+1074)*4503599627370496+cutN neg M (numK M e-e) mode
def numX (neg:Bool) (M:Nat) (e mode:Int):Int:=capX neg mode (numR neg M e mode)
def numC (neg:Bool) (M:Nat) (e mode:Int):Bool:=capC (numR neg M e mode) (cutC M (numK M e-e))
theorem rnd_core (neg:Bool) (s R t P rest:Nat) (mode:Int) (h0:rvi R*2^s=t) (h1:rvi (R+1)*2^s=t+P) (hr:rest<P) (hpos:neg=true→0<t+rest) (m0:0≤mode) (m1:mode≤4) (Rr:Int)
 (hR:Rr=if rest≠0∧upN neg (decide ((R:Int)%2=1)) (cmpI (2*(rest:Int)) P) mode=true then (R:Int)+1 else R):
 Rnd s (sg neg ((t+rest:Nat):Int)) mode (capX neg mode Rr) (capC Rr (decide (rest≠0))):=by
 cases neg
 ·exact rnd_core_pos s R t P rest mode h0 h1 hr m0 m1 Rr hR
 ·exact rnd_core_neg s R t P rest mode h0 h1 hr (hpos rfl) m0 m1 Rr hR
theorem mode_half (x y E:Nat):cmpI (2*((x*2^E:Nat):Int)) ((2*y*2^E:Nat):Int)=cmpI (x:Int) (y:Int):=by
 rw [←cmpI_pw (x:Int) (y:Int) (E+1),pw_nat,Nat.pow_succ]
 have e1:2*((x*2^E:Nat):Int)=((x*(2^E*2):Nat):Int):=by rw [←Nat.mul_assoc];omega
 have e2:((2*y*2^E:Nat):Int)=((y*(2^E*2):Nat):Int):=by congr 1;rw [←Nat.mul_assoc,Nat.mul_assoc 2,Nat.mul_comm 2]
 rw [e1,e2,Int.natCast_mul x,Int.natCast_mul y]
theorem number_rnd (neg:Bool) (M:Nat) (e mode:Int) (s:Nat) (m0:0≤mode) (m1:mode≤4) (hz:M=0→neg=false) (hs:0≤e+1074+s):
 Rnd s (sg neg ((M*2^(e+1074+s).toNat:Nat):Int)) mode (numX neg M e mode) (numC neg M e mode):=by
 by_cases hM:M=0
 ·have:=hz hM
  subst hM;subst this
  have h:=rnd_core_pos s 0 0 (2^s) 0 mode (by rw [rvi_zero,Nat.zero_mul]) (by rw [show rvi (0+1)=1 by decide,Nat.one_mul,Nat.zero_add]) (Nat.two_pow_pos s) m0 m1 0 (by simp)
  have e1:numR false 0 e mode=0:=by unfold numR;rw [if_pos rfl]
  have e2:cutC 0 (numK 0 e-e)=decide ((0:Nat)≠0):=by unfold cutC;split<;>simp
  unfold numX numC
  rw [e1,e2,Nat.zero_mul]
  exact h
 ·have b1:=lt_bl M
  have b2:=pow_bl M (by omega)
  have b3:=(bl_pos M).2 (by omega)
  obtain ⟨k,hk⟩: ∃k,k=numK M e:=⟨_,rfl⟩
  have hk2:=hk
  unfold numK at hk2
  obtain ⟨h,hh⟩: ∃h:Nat,(h:Int)=k+1074:=⟨(k+1074).toNat,by omega⟩
  obtain ⟨E,hE⟩: ∃E,E=(e+1074+s).toNat:=⟨_,rfl⟩
  have hRe:numR neg M e mode=(h:Int)*4503599627370496+cutN neg M (k-e) mode:=by unfold numR;rw [if_neg hM,←hk,←hh]
  have hpow:0<2^s:=Nat.two_pow_pos s
  have core: ∀q rest:Nat,q<9007199254740992→(h=0∨4503599627370496≤q)→M*2^E=q*2^(h+s)+rest→rest<2^(h+s)→cutC M (k-e)=decide (rest≠0)→
   (cutN neg M (k-e) mode:Int)=(if rest≠0∧upN neg (decide ((q:Int)%2=1)) (cmpI (2*(rest:Int)) ((2^(h+s):Nat):Int)) mode=true then (q:Int)+1 else q)→
   Rnd s (sg neg ((M*2^E:Nat):Int)) mode (numX neg M e mode) (numC neg M e mode):=by
   intro q rest hq hqh hA hr hC hN
   obtain ⟨r1,r2⟩:=rvi_parts h q hq hqh
   have par:(((h*4503599627370496+q:Nat):Int)%2=1)=((q:Int)%2=1):=by rw [eq_iff_iff];omega
   have g:=rnd_core neg s (h*4503599627370496+q) (q*2^(h+s)) (2^(h+s)) rest mode (by rw [r1,Nat.pow_add,Nat.mul_assoc]) (by rw [r2,Nat.pow_add,Nat.mul_assoc,Nat.succ_mul]) hr (fun _=>by rw [←hA];exact Nat.mul_pos (by omega) (Nat.two_pow_pos E)) m0 m1 (numR neg M e mode) (by
    rw [hRe,hN]
    simp only [par]
    split<;>omega)
   rw [hA]
   unfold numX numC
   rw [←hk,hC]
   exact g
  rw [←hE]
  by_cases hj:k-e≤0
  ·obtain ⟨d,hd⟩: ∃d:Nat,(d:Int)= -(k-e):=⟨(-(k-e)).toNat,by omega⟩
   have hd2:(-(k-e)).toNat=d:=by omega
   refine core (M*2^d) 0 ?_ ?_ ?_ (Nat.two_pow_pos _) ?_ ?_
   ·have:M*2^d<2^bl M*2^d:=Nat.mul_lt_mul_of_pos_right b1 (Nat.two_pow_pos d)
    rw [←Nat.pow_add] at this
    exact Nat.lt_of_lt_of_le this (Nat.pow_le_pow_right (by omega) (show bl M+d≤53 by omega))
   ·by_cases h0:h=0
    ·exact .inl h0
    ·right
     have:2^(bl M-1)*2^d≤M*2^d:=Nat.mul_le_mul_right _ b2
     rw [←Nat.pow_add,show bl M-1+d=52 by omega] at this
     exact this
   ·rw [Nat.add_zero,Nat.mul_assoc,←Nat.pow_add];congr 2;omega
   ·unfold cutC;rw [if_pos hj];rfl
   ·unfold cutN;rw [if_pos hj,if_neg (by simp),hd2]
  ·obtain ⟨j,hj2⟩: ∃j:Nat,(j:Int)=k-e:=⟨(k-e).toNat,by omega⟩
   have hj3:(k-e).toNat=j:=by omega
   have hsum:h+s=j+E:=by omega
   have hP:2^(h+s)=2^j*2^E:=by rw [hsum,Nat.pow_add]
   have hj1:2^j=2*2^(j-1):=by rw [←Nat.pow_succ'];congr 1;omega
   have hEp:0<2^E:=Nat.two_pow_pos E
   have nz:((M%2^j)*2^E≠0)=(M%2^j≠0):=by
    rw [eq_iff_iff]
    constructor
    ·intro h1 h2;rw [h2,Nat.zero_mul] at h1;exact h1 rfl
    ·intro h1 h2
     rcases Nat.mul_eq_zero.1 h2 with h3|h3
     ·exact h1 h3
     ·omega
   refine core (M/2^j) ((M%2^j)*2^E) ?_ ?_ ?_ ?_ ?_ ?_
   ·rw [Nat.div_lt_iff_lt_mul (Nat.two_pow_pos j),show (9007199254740992:Nat)=2^53 by decide,←Nat.pow_add]
    exact Nat.lt_of_lt_of_le b1 (Nat.pow_le_pow_right (by omega) (by omega))
   ·by_cases h0:h=0
    ·exact .inl h0
    ·right
     rw [Nat.le_div_iff_mul_le (Nat.two_pow_pos j),show (4503599627370496:Nat)=2^52 by decide,←Nat.pow_add,show 52+j=bl M-1 by omega]
     exact b2
   ·rw [hP,←Nat.mul_assoc,←Nat.add_mul];congr 1
    rw [Nat.mul_comm];exact (Nat.div_add_mod M (2^j)).symm
   ·rw [hP];exact Nat.mul_lt_mul_of_pos_right (Nat.mod_lt _ (Nat.two_pow_pos j)) hEp
   ·unfold cutC;rw [if_neg hj,hj3];simp only [nz]
   ·unfold cutN;rw [if_neg hj,hj3]
    have em:cmpI (2*(((M%2^j)*2^E:Nat):Int)) ((2^(h+s):Nat):Int)=cmpI ((M%2^j:Nat):Int) ((2^(j-1):Nat):Int):=by
     have hPP:2^j*2^E=2*2^(j-1)*2^E:=by rw [←hj1]
     rw [hP,hPP];exact mode_half (M%2^j) (2^(j-1)) E
    rw [em]
    simp only [nz]
    split<;>omega
theorem cmpI_swap (a b:Int):cmpI a b= -cmpI b a:=by unfold cmpI;split<;>split<;>(try split)<;>(try split)<;>omega
end Go.Ulp
namespace Go.Proofs.YtfphmlmgjhebjaaGreatDoor
open Go.RowKit Go.Ulp
set_option maxHeartbeats 1000000
set_option maxRecDepth 100000
theorem up_any (neg odd:Bool) (half mode:Int) (w:World):
 Calls Tryz.prog 214 #[.bool neg,.bool odd,.int .i64 half,.int .i64 mode] w fun e w'=>e=.returned (.bool (upN neg odd half mode))∧w=w':=by
 by_cases h1:mode=1
 ·subst h1
  go_enter Tryz.func214,Tryz.ntmps214
  go_wp2_with fail
  go_ret
  exact ⟨ret_bool (by simp [upN]),rfl⟩
 by_cases h2:mode=2
 ·subst h2
  go_enter Tryz.func214,Tryz.ntmps214
  go_wp2_with fail
  go_ret
  exact ⟨ret_bool (by simp [upN]),rfl⟩
 by_cases h3:mode=3
 ·subst h3
  go_enter Tryz.func214,Tryz.ntmps214
  go_wp2_with fail
  go_ret
  exact ⟨ret_bool (by simp [upN]),rfl⟩
 by_cases h4:mode=4
 ·subst h4
  go_enter Tryz.func214,Tryz.ntmps214
  go_wp2_with fail
  go_ret
  exact ⟨ret_bool (by simp [upN]),rfl⟩
 have b1:(mode==1)=false:=beq_eq_false_iff_ne.2 h1
 have b2:(mode==2)=false:=beq_eq_false_iff_ne.2 h2
 have b3:(mode==3)=false:=beq_eq_false_iff_ne.2 h3
 have b4:(mode==4)=false:=beq_eq_false_iff_ne.2 h4
 have hu:upN neg odd half mode=decide (0<half∨(half=0∧odd=true)):=by unfold upN;rw [if_neg h1,if_neg h2,if_neg h3,if_neg h4]
 rw [hu]
 clear hu h1 h2 h3 h4
 rcases Int.lt_trichotomy half 0 with h|h|h
 ·have c1:decide (0<half)=false:=decide_eq_false (by omega)
  have c2:(half==0)=false:=beq_eq_false_iff_ne.2 (by omega)
  have hr:decide (0<half∨(half=0∧odd=true))=false:=decide_eq_false (fun h2=>by omega)
  rw [hr]
  clear hr
  go_enter Tryz.func214,Tryz.ntmps214
  go_wp2_with fail
  go_ret
  exact ⟨rfl,rfl⟩
 ·subst h
  have hr:decide ((0:Int)<0∨((0:Int)=0∧odd=true))=odd:=by cases odd<;>rfl
  rw [hr]
  clear hr
  go_enter Tryz.func214,Tryz.ntmps214
  go_wp2_with fail
  go_ret
  exact ⟨rfl,rfl⟩
 ·have c1:decide (0<half)=true:=decide_eq_true h
  have hr:decide (0<half∨(half=0∧odd=true))=true:=decide_eq_true (.inl h)
  rw [hr]
  clear hr
  go_enter Tryz.func214,Tryz.ntmps214
  go_wp2_with fail
  go_ret
  exact ⟨rfl,rfl⟩
theorem natLen_any (a0:Option Addr) (c0 m:Nat) (w:World) (h0:Ns .u32 w a0 c0 (limbs m)) (hm:(limbs m).length≤1000000):
 Calls Tryz.prog 94 #[.slice a0 (limbs m).length c0] w fun e w'=>e=.returned (.int .i64 (bl m:Int))∧w=w':=by
 by_cases hz:m=0
 ·subst hz
  rw [limbs_zero]
  go_enter Tryz.func94,Tryz.ntmps94
  go_wp2_with fail
  go_ret
  exact ⟨rfl,rfl⟩
 have hpos:0<(limbs m).length:=(digs_len_pos 4294967296 (by omega) m).2 (by omega)
 obtain ⟨s0,hs⟩: ∃s0,(limbs m).length=s0+1:=⟨(limbs m).length-1,by omega⟩
 obtain ⟨top,htop⟩: ∃top,top=(limbs m).getD s0 0:=⟨_,rfl⟩
 have lN:=limbs_lim m
 have btop:top<4294967296:=by rw [htop];exact lN.getD (by omega) _
 have ptop:0<top:=by
  have:=(trim_iff (limbs m)).1 (limbs_trim m)
  rw [hs] at this
  rcases this with h|h
  ·omega
  ·rw [htop];exact Nat.pos_of_ne_zero h
 obtain ⟨b1,o1,rfl,hc1⟩:=h0.2.2 (by omega)
 have k1:w.cell? ⟨b1,o1+s0,none⟩=some (.int .u32 (top:Int)):=by rw [hc1 s0 (by omega),htop];rfl
 have vn:m=lval ((limbs m).take s0)+4294967296^s0*top:=by
  have:=lval_take_succ (limbs m) s0 (by omega)
  rw [List.take_of_length_le (by omega),lval_limbs,←htop] at this
  exact this
 have hb:bl top≤32:=(bl_le top 32).2 (by simpa using btop)
 have LZ:=hid (show ∀w,Calls Tryz.prog 173 #[.int .u32 (top:Int)] w fun e w'=>e=.returned (.int .i64 (32-(bl top:Int)))∧w=w' from fun w=>(Tryz.bits_LeadingZeros32 (top:Int) w (by omega) (by omega)).mono (by
  rintro e w' ⟨rfl,rfl⟩
  refine ⟨ret_int ?_,rfl⟩
  rw [show ((top:Int)).toNat=top by omega,bitLen_bl2 _ (by omega)]))
 have hbl:(bl m:Int)=32*((s0:Int)+1)-(32-(bl top:Int)):=by
  have e1:(4294967296:Nat)^s0=2^(32*s0):=by rw [Nat.pow_mul]
  have h1:=lval_take_lt (limbs m) s0 lN (by omega)
  rw [e1] at vn h1
  have:=bl_top _ top (32*s0) h1 ptop
  rw [←vn] at this
  omega
 have HB:=hid hbl
 have hcap:=h0.1
 have hcap2:=h0.2.1
 unfold maxLen at hcap2
 obtain ⟨bt,hbt⟩: ∃bt,bt=bl top:=⟨_,rfl⟩
 rw [←hbt] at LZ HB hb
 rw [hs] at hcap hm ⊢
 clear h0 hc1 htop vn hs hpos lN hbl hbt
 go_enter Tryz.func94,Tryz.ntmps94
 go_wp2_with (go_at_call 173;(with_reducible refine (LZ.out _).mono ?_);rintro e w1 ⟨rfl,rfl⟩)
 go_ret
 exact ⟨ret_int (by rw [HB.out];try omega),rfl⟩
end Go.Proofs.YtfphmlmgjhebjaaGreatDoor
namespace Go.Ulp
open Go.RowKit
theorem limbs_odd (q:Nat) (h:0<(limbs q).length):((limbs q).getD 0 0)%2=q%2:=by
 have h1:=val_drop 4294967296 (limbs q) 0 h
 rw [List.drop_zero] at h1
 have h2:=lval_limbs q
 unfold lval at h2
 omega
theorem cut_pos (neg:Bool) (M j:Nat) (mode:Int):cutN neg M ((j+1:Nat):Int) mode=if M%2^(j+1)≠0∧upN neg (decide (((M/2^(j+1):Nat):Int)%2=1)) (cmpI ((M%2^(j+1):Nat):Int) ((2^j:Nat):Int)) mode=true then M/2^(j+1)+1 else M/2^(j+1):=by
 unfold cutN
 rw [if_neg (by omega),Int.toNat_natCast];rfl
theorem cutC_pos (M j:Nat):cutC M ((j+1:Nat):Int)=lostB M (j+1):=by
 unfold cutC lostB
 rw [if_neg (by omega),Int.toNat_natCast]
theorem cut_neg (neg:Bool) (M n:Nat) (mode:Int):cutN neg M (-(n:Int)) mode=M*2^n∧cutC M (-(n:Int))=false:=by
 unfold cutN cutC
 rw [if_pos (by omega),if_pos (by omega),show (-(-(n:Int))).toNat=n by omega]
 exact ⟨rfl,rfl⟩
end Go.Ulp
namespace Go.Proofs.YtfphmlmgjhebjaaGreatDoor
open Go.RowKit Go.Ulp
set_option maxHeartbeats 1000000
set_option maxRecDepth 100000
theorem cut_left (neg:Bool) (a0:Option Addr) (c0 m n:Nat) (mode:Int) (w:World) (h0:Ns .u32 w a0 c0 (limbs m)) (hm:(limbs m).length≤1000000) (hn:n≤1000000):
 Calls Tryz.prog 152 #[.bool neg,.slice a0 (limbs m).length c0,.int .i64 (-(n:Int)),.int .i64 mode] w fun e w'=>RetN2 w (m*2^n) (.bool false) e w':=by
 have H:=hid h0
 clear h0
 go_enter Tryz.func152,Tryz.ntmps152
 go_wp2_with (go_at_call 172;go_loud (with_reducible refine (leftN_any _ _ m n _ H.out (by omega) (by omega)).mono ?_);rintro e w1 ⟨a1,rfl,hN1,hb1⟩)
 go_ret2
 exact ⟨_,rfl,hN1,hb1⟩
theorem cut_right (neg:Bool) (a0:Option Addr) (c0 m j:Nat) (mode:Int) (w:World) (h0:Ns .u32 w a0 c0 (limbs m)) (hm:(limbs m).length≤1000000) (hj:j≤1000000):
 Calls Tryz.prog 152 #[.bool neg,.slice a0 (limbs m).length c0,.int .i64 ((j:Int)+1),.int .i64 mode] w fun e w'=>RetN2 w (cutN neg m ((j+1:Nat):Int) mode) (.bool (cutC m ((j+1:Nat):Int))) e w':=by
 have H:=hid h0
 clear h0
 rw [cut_pos,cutC_pos]
 obtain ⟨q,hq⟩: ∃q,q=m/2^(j+1):=⟨_,rfl⟩
 have RR:=hid (show Calls Tryz.prog 213 #[.slice a0 (limbs m).length c0,.int .i64 ((j:Int)+1)] w fun e w'=>RetN2 w (m/2^(j+1)) (.bool (lostB m (j+1))) e w' from right_any a0 c0 m (j+1) w H.out (by omega) (by omega))
 rw [←hq] at RR ⊢
 have hqm:q≤m:=by rw [hq];exact Nat.div_le_self _ _
 have hql:(limbs q).length≤(limbs m).length:=limbs_len_mono hqm
 have hle:q*2^(j+1)≤m:=by rw [hq];exact Nat.div_mul_le_self _ _
 have hml:(limbs (q*2^(j+1))).length≤(limbs m).length:=limbs_len_mono hle
 have hrest:m-q*2^(j+1)=m%2^(j+1):=by
  rw [hq];have:=Nat.div_add_mod m (2^(j+1));rw [Nat.mul_comm] at this;omega
 have hj1:0<((j+1:Nat):Int):=by omega
 by_cases hl:lostB m (j+1)=false
 ·have hz: ¬m%2^(j+1)≠0:=by unfold lostB at hl;simpa using hl
  rw [if_neg (fun h=>hz h.1)]
  rw [hl] at RR ⊢
  clear hq hqm hql hle hml hrest hz hl
  go_enter Tryz.func152,Tryz.ntmps152
  go_wp2_with (go_at_call 213;(with_reducible refine RR.out.mono ?_);rintro e w1 ⟨a1,rfl,hN1,hb1⟩)
  go_ret2
  exact ⟨_,rfl,hN1,hb1⟩
 ·have hl1:lostB m (j+1)=true:=by simpa using hl
  have hz:m%2^(j+1)≠0:=by unfold lostB at hl1;simpa using hl1
  rw [hl1] at RR ⊢
  obtain ⟨rest,hrs⟩: ∃r,r=m%2^(j+1):=⟨_,rfl⟩
  rw [←hrs] at hz hrest ⊢
  have hrl:(limbs rest).length≤(limbs m).length:=limbs_len_mono (by rw [hrs];exact Nat.mod_le _ _)
  obtain ⟨half,hhalf⟩: ∃x,x=cmpI (rest:Int) ((2^j:Nat):Int):=⟨_,rfl⟩
  obtain ⟨up,hup⟩: ∃x,x=upN neg (decide ((q:Int)%2=1)) half mode:=⟨_,rfl⟩
  have UP:=hid (show ∀od w,od=decide ((q:Int)%2=1)→Calls Tryz.prog 214 #[.bool neg,.bool od,.int .i64 half,.int .i64 mode] w fun e w'=>e=.returned (.bool up)∧w=w' from fun od w h=>by subst h;rw [hup];exact up_any _ _ _ _ w)
  have CM:=hid (show ∀a b c d w,Ns .u32 w a c (limbs rest)→Ns .u32 w b d (limbs (2^j))→Calls Tryz.prog 210 #[.slice a (limbs rest).length c,.slice b (limbs (2^j)).length d] w fun e w'=>e=.returned (.int .i64 half)∧ ∃nq,w'=w.drewN nq from fun a b c d w k0 k1=>by
   have:=compare_any a b c d rest (2^j) w k0 k1
   rw [←hhalf] at this
   exact this)
  have MI:=hid (show ∀a b c d w,Ns .u32 w a c (limbs m)→Ns .u32 w b d (limbs (q*2^(j+1)))→Calls Tryz.prog 211 #[.slice a (limbs m).length c,.slice b (limbs (q*2^(j+1))).length d] w fun e w'=>RetN w rest e w' from fun a b c d w k0 k1=>by
   have:=minus_any a b c d m (q*2^(j+1)) w k0 k1 (by omega) hle
   rwa [hrest] at this)
  have LQ:=hid (show ∀a c w,Ns .u32 w a c (limbs q)→Calls Tryz.prog 172 #[.slice a (limbs q).length c,.int .i64 ((j:Int)+1)] w fun e w'=>RetN w (q*2^(j+1)) e w' from fun a c w k=>leftN_any a c q (j+1) w k (by omega) (by omega))
  have hone:(limbs 1).length≤4294967296:=by
   have:(limbs 1).length≤1:=(digs_len_le 4294967296 (by omega) 1 1).2 (by omega)
   omega
  have LO:=hid (show ∀a c w,Ns .u32 w a c (limbs 1)→Calls Tryz.prog 172 #[.slice a (limbs 1).length c,.int .i64 (j:Int)] w fun e w'=>RetN w (2^j) e w' from fun a c w k=>by have:=leftN_any a c 1 j w k hone (by omega);rwa [Nat.one_mul] at this)
  have PL:=hid (show ∀a b c d w,Ns .u32 w a c (limbs q)→Ns .u32 w b d (limbs 1)→Calls Tryz.prog 163 #[.slice a (limbs q).length c,.slice b (limbs 1).length d] w fun e w'=>RetN w (q+1) e w' from fun a b c d w k0 k1=>plus_any a b c d q 1 w k0 k1 (by omega) hone)
  have OF:=hid (show ∀w,Calls Tryz.prog 95 #[.int .u64 1] w fun e w'=>RetN w 1 e w' from fun w=>natOf_any 1 (by omega) w)
  have hodd:(decide ((q:Int)%2=1))=decide (q%2=1):=by rw [decide_eq_decide];omega
  have hjj:((j+1:Nat):Int)-1=(j:Int):=by omega
  have HRES:=hid (show (if rest≠0∧upN neg (decide ((q:Int)%2=1)) half mode=true then q+1 else q)=if up=true then q+1 else q by
   rw [←hup];by_cases hu:up=true
   ·rw [if_pos ⟨hz,hu⟩,if_pos hu]
   ·rw [if_neg (fun h=>hu h.2),if_neg hu])
  rw [←hhalf,HRES.out]
  have HOD:=hid hodd
  clear hrs hup hhalf hrest hml hle hqm hq hl hl1 HRES hone hz hodd
  go_enter Tryz.func152,Tryz.ntmps152
  go_upto_region 8 with (first
   |(go_at_call 213;(with_reducible refine RR.out.mono ?_);rintro e w1 ⟨a1,rfl,hN1,hb1⟩)
   |(go_at_call 172;(first
    |((with_reducible refine (LQ.out _ _ _ hN1).mono ?_);rintro e w2 ⟨a2,rfl,hN2,hb2⟩)
    |((with_reducible refine (LO.out _ _ _ hN4).mono ?_);rintro e w5 ⟨a5,rfl,hN5,hb5⟩)))
   |(go_at_call 211;(with_reducible refine (MI.out _ _ _ _ _ (H.out.below (below_trans hb1 hb2)) hN2).mono ?_);rintro e w3 ⟨a3,rfl,hN3,hb3⟩)
   |(go_at_call 95;(with_reducible refine (OF.out _).mono ?_);rintro e w4 ⟨a4,rfl,hN4,hb4⟩)
   |(go_at_call 210;(with_reducible refine (CM.out _ _ _ _ _ ((hN3.below hb4).below hb5) hN5).mono ?_);rintro e w6 ⟨rfl,nq,rfl⟩))
  have y6:Below w.heap.size w (w5.drewN nq):=below_trans hb1 (below_trans hb2 (below_trans hb3 (below_trans hb4 (below_trans hb5 (below_drewN (Below.refl _ _) nq)))))
  have n6:Ns .u32 (w5.drewN nq) a1 (limbs q).length (limbs q):=hN1.below (below_trans hb2 (below_trans hb3 (below_trans hb4 (below_trans hb5 (below_drewN (Below.refl _ _) nq)))))
  clear hN1 hN2 hN3 hN4 hN5 hb2 hb3 hb4 hb5 RR CM MI LQ LO
  generalize w5.drewN nq=w6 at *
  have hcap2:=n6.2.1
  unfold maxLen at hcap2
  have N6:=hid n6
  by_cases hq0:(limbs q).length=0
  ·have hqz:q=0:=(limbs_nil q).1 (List.length_eq_zero_iff.1 hq0)
   have UP0:=hid (fun w=>UP.out false w (by subst hqz;rfl))
   have N7:=N6
   rw [hq0] at N7 PL ⊢
   clear n6 hqz
   go_upto_if 55 with (go_at_call 214;(with_reducible refine (UP0.out _).mono ?_);rintro e w7 ⟨rfl,rfl⟩)
   cases up
   ·go_wp2_with fail
    go_ret2
    have:=N6.out
    rw [hq0] at this
    exact ⟨a1,by rw [hq0];rfl,by rw [hq0];exact this,y6⟩
   ·go_wp2_with (first
     |(go_at_call 95;(with_reducible refine (OF.out _).mono ?_);rintro e w8 ⟨a8,rfl,hN8,hb8⟩)
     |(go_at_call 163;(with_reducible refine (PL.out _ _ _ _ _ (N7.out.below hb8) hN8).mono ?_);rintro e w9 ⟨a9,rfl,hN9,hb9⟩))
    go_ret2
    exact ⟨_,rfl,hN9,below_trans (below_trans y6 hb8) hb9⟩
  ·obtain ⟨b1,o1,rfl,hc1⟩:=n6.2.2 (by omega)
   obtain ⟨x,hx⟩: ∃x,x=(limbs q).getD 0 0:=⟨_,rfl⟩
   have k1:w6.cell? ⟨b1,o1,none⟩=some (.int .u32 (x:Int)):=by have:=hc1 0 (by omega);rw [hx];exact this
   have hxo:x%2=q%2:=by rw [hx];exact limbs_odd q (by omega)
   have hx2:x<4294967296:=by rw [hx];exact (limbs_lim q).getD (by omega) 0
   have hpos:0<(limbs q).length:=by omega
   have hx3:(x:Int)%2=0∨(x:Int)%2=1:=by omega
   have UP0:=hid (fun w=>UP.out ((x:Int)%2==1) w (by
    rw [Bool.eq_iff_iff,beq_iff_eq,decide_eq_true_eq];omega))
   clear n6 hc1 hx hxo hq0
   go_upto_if 55 with (go_at_call 214;(with_reducible refine (UP0.out _).mono ?_);rintro e w7 ⟨rfl,rfl⟩)
   cases up
   ·go_wp2_with fail
    go_ret2
    exact ⟨_,rfl,N6.out,y6⟩
   ·go_wp2_with (first
     |(go_at_call 95;(with_reducible refine (OF.out _).mono ?_);rintro e w8 ⟨a8,rfl,hN8,hb8⟩)
     |(go_at_call 163;(with_reducible refine (PL.out _ _ _ _ _ (N6.out.below hb8) hN8).mono ?_);rintro e w9 ⟨a9,rfl,hN9,hb9⟩))
    go_ret2
    exact ⟨_,rfl,hN9,below_trans (below_trans y6 hb8) hb9⟩
theorem cut_any (neg:Bool) (a0:Option Addr) (c0 m:Nat) (k mode:Int) (w:World) (h0:Ns .u32 w a0 c0 (limbs m)) (hm:(limbs m).length≤1000000) (hk: -1000000≤k∧k≤1000000):
 Calls Tryz.prog 152 #[.bool neg,.slice a0 (limbs m).length c0,.int .i64 k,.int .i64 mode] w fun e w'=>RetN2 w (cutN neg m k mode) (.bool (cutC m k)) e w':=by
 by_cases h:k≤0
 ·obtain ⟨n,rfl⟩: ∃n:Nat,k= -(n:Int):=⟨(-k).toNat,by omega⟩
  rw [(cut_neg neg m n mode).1,(cut_neg neg m n mode).2]
  exact cut_left neg a0 c0 m n mode w h0 hm (by omega)
 ·obtain ⟨j,rfl⟩: ∃j:Nat,k=((j+1:Nat):Int):=⟨(k-1).toNat,by omega⟩
  exact cut_right neg a0 c0 m j mode w h0 hm (by omega)
end Go.Proofs.YtfphmlmgjhebjaaGreatDoor
namespace Go.Ulp
open Go.RowKit
theorem rvs_nat9 (a:Nat):rvs (a:Int)=(rvi a:Int):=by unfold rvs;rw [if_neg (by omega),Int.natAbs_natCast]
def rdC (K A B:Nat) (l:Int):Int:=cmpI (rvs l*(B:Int)) ((A:Int)*pw K)
def rdM (K A B:Nat) (l:Int):Int:=cmpI ((rvs l+rvs (l+1))*(B:Int)) (2*((A:Int)*pw K))
def rdU (K A B:Nat) (mode l:Int):Bool:=decide (mode=1∨(mode=0∧(rdM K A B l<0∨(rdM K A B l=0∧l%2=1)))∨(mode=4∧rdM K A B l≤0))
def rdA (K A B:Nat) (mode l:Int):Int×Bool:=if rdC K A B l=0 then (l,false) else if rdU K A B mode l=true then (l+1,true) else (l,true)
def swM (mode:Int):Int:=if mode=1 then 2 else if mode=2 then 1 else mode
theorem up_sw (odd:Bool) (half mode:Int) (m0:0≤mode) (m1:mode≤4):upN true odd half mode=upN false odd half (swM mode):=by
 unfold upN swM
 by_cases h1:mode=1
 ·subst h1;rfl
 by_cases h2:mode=2
 ·subst h2;rfl
 rw [if_neg h1,if_neg h2,if_neg h1,if_neg h2,if_neg h1,if_neg h2]
theorem over_sw (mode:Int) (m0:0≤mode) (m1:mode≤4):overA true mode=overA false (swM mode):=by
 have:mode=0∨mode=1∨mode=2∨mode=3∨mode=4:=by omega
 rcases this with h|h|h|h|h<;>subst h<;>rfl
theorem num_sw (M:Nat) (e mode:Int) (m0:0≤mode) (m1:mode≤4):numX true M e mode=numX false M e (swM mode)+9223372036854775808∧numC true M e mode=numC false M e (swM mode):=by
 have hc: ∀j,cutN true M j mode=cutN false M j (swM mode):=by
  intro j
  unfold cutN
  split
  ·rfl
  ·rw [up_sw _ _ mode m0 m1]
 have hr:numR true M e mode=numR false M e (swM mode):=by
  unfold numR;rw [hc]
 unfold numX numC
 rw [hr]
 refine ⟨?_,rfl⟩
 unfold capX
 rw [over_sw mode m0 m1]
 have s1:sgb true=9223372036854775808:=rfl
 have s0:sgb false=0:=rfl
 rw [s1,s0]
 split
 ·omega
 ·omega
def SameC (s:Nat) (V:Int) (K A B:Nat):Prop:=(∀r:Nat,(r:Int)≤9218868437227405312→cR s V r=rdC K A B r)∧(∀r:Nat,(r:Int)<9218868437227405312→cM s V r= -rdM K A B r)
theorem read_pos (M:Nat) (e mode:Int) (K A B s l:Nat) (m0:0≤mode) (m1:mode≤4) (hM:0<M) (hs:0≤e+1074+s) (SC:SameC s ((M*2^(e+1074+s).toNat:Nat):Int) K A B)
 (l1:(l:Int)<9218868437227405312) (l2:rdC K A B l≤0) (l3:(l:Int)+1=9218868437227405312∨0<rdC K A B ((l:Int)+1)):
 (numX false M e mode,numC false M e mode)=rdA K A B mode l:=by
 have a:=number_rnd false M e mode s m0 m1 (fun h=>rfl) hs
 obtain ⟨V,hV⟩: ∃V:Nat,V=M*2^(e+1074+s).toNat:=⟨_,rfl⟩
 rw [←hV] at a SC
 have hVp:0<V:=by rw [hV];exact Nat.mul_pos hM (Nat.two_pow_pos _)
 have cl:cR s (sg false (V:Int)) (l:Int)=rdC K A B l:=SC.1 l (by omega)
 have cl1:=SC.1 (l+1) (by omega)
 have cm:cM s (sg false (V:Int)) (l:Int)= -rdM K A B l:=SC.2 l l1
 rw [show ((l+1:Nat):Int)=(l:Int)+1 by omega] at cl1
 have low:IsLow (cR s (sg false (V:Int))) l:=⟨by omega,l1,.inr (by rw [cl];exact l2),by
  show (l:Int)+1=_∨0<cR s (V:Int) ((l:Int)+1)
  rw [cl1];exact l3⟩
 obtain ⟨l',lw,an⟩:=a
 have hl:=low_uniq lw low
 subst hl
 have hcz:cmpI (sg false (V:Int)) 0=1:=by
  show cmpI (V:Int) 0=1
  unfold cmpI;split
  ·omega
  ·split<;>omega
 rw [an,hcz]
 unfold ansR rdA
 rw [cl,cm,show decide ((1:Int)<0)=false from rfl,tell_pos _ (by omega),tell_pos _ (by omega),ranked_pos _ (by omega)]
 by_cases hz:rdC K A B l=0
 ·rw [if_pos ⟨by omega,hz⟩,if_pos hz]
 ·rw [if_neg (fun h=>hz h.2),if_neg hz]
  have hu:upR false mode (-rdM K A B l) ((l:Int)+1)=rdU K A B mode l:=by
   unfold upR rdU
   by_cases h0:rdM K A B l=0
   ·by_cases hm0:mode=0
    ·rw [if_pos ⟨by omega,hm0⟩,decide_eq_decide];omega
    ·rw [if_neg (fun h=>hm0 h.2)]
     by_cases hm4:mode=4
     ·rw [if_pos ⟨by omega,hm4⟩,eq_comm];exact decide_eq_true (by omega)
     ·rw [if_neg (fun h=>hm4 h.2),decide_eq_decide]
      simp only [Bool.false_eq_true,and_false,false_or]
      omega
   ·rw [if_neg (fun h=>h0 (by omega)),if_neg (fun h=>h0 (by omega)),decide_eq_decide]
    simp only [Bool.false_eq_true,and_false,false_or]
    omega
  rw [hu]
theorem read_sg (neg:Bool) (M:Nat) (e mode:Int) (K A B s l:Nat) (m0:0≤mode) (m1:mode≤4) (hM:0<M) (hs:0≤e+1074+s) (SC:SameC s ((M*2^(e+1074+s).toNat:Nat):Int) K A B)
 (l1:(l:Int)<9218868437227405312) (l2:rdC K A B l≤0) (l3:(l:Int)+1=9218868437227405312∨0<rdC K A B ((l:Int)+1)):
 numX neg M e mode=(rdA K A B (if neg=true then swM mode else mode) l).1+sgb neg∧numC neg M e mode=(rdA K A B (if neg=true then swM mode else mode) l).2:=by
 cases neg
 ·have h:=read_pos M e mode K A B s l m0 m1 hM hs SC l1 l2 l3
  rw [if_neg (by simp),←h]
  exact ⟨by show _=_+0;omega,rfl⟩
 ·have hsw:0≤swM mode∧swM mode≤4:=by unfold swM;split<;>(try split)<;>omega
  have h:=read_pos M e (swM mode) K A B s l hsw.1 hsw.2 hM hs SC l1 l2 l3
  obtain ⟨h1,h2⟩:=num_sw M e mode m0 m1
  rw [if_pos rfl,←h,h1,h2]
  exact ⟨rfl,rfl⟩
theorem cmpI_scale (a b k:Int) (hk:0<k):cmpI (a*k) (b*k)=cmpI a b:=by
 rcases Int.lt_trichotomy a b with h|h|h
 ·have:=Int.mul_lt_mul_of_pos_right h hk
  rw [show cmpI a b= -1 by unfold cmpI;rw [if_pos h]]
  unfold cmpI;rw [if_pos this]
 ·subst h
  rw [(cmpI_eq_zero _ _).2 rfl,(cmpI_eq_zero _ _).2 rfl]
 ·have:=Int.mul_lt_mul_of_pos_right h hk
  have e1:cmpI a b=1:=by unfold cmpI;rw [if_neg (by omega),if_pos h]
  rw [e1]
  unfold cmpI;rw [if_neg (by omega),if_pos this]
theorem rvi_rep3 (n:Nat): ∃q h,rvi n=q*2^h∧rvi (n+1)=(q+1)*2^h∧q<9007199254740992:=by
 by_cases hn:n<4503599627370496
 ·have:=rvi_parts 0 n (by omega) (.inl rfl)
  rw [Nat.zero_mul,Nat.zero_add] at this
  exact ⟨n,0,this.1,this.2,by omega⟩
 ·have:=rvi_parts (n/4503599627370496-1) (n%4503599627370496+4503599627370496) (by omega) (.inr (by omega))
  rw [show (n/4503599627370496-1)*4503599627370496+(n%4503599627370496+4503599627370496)=n by omega] at this
  exact ⟨_,_,this.1,this.2,by omega⟩
theorem same_of (s V K A B:Nat) (HC: ∀q h c:Nat,q≤18014398509481984→c≤1→cmpI ((q*2^h*2^s:Nat):Int) ((2^c*V:Nat):Int)=cmpI (((q*2^h:Nat):Int)*(B:Int)) (((2^c:Nat):Int)*((A:Int)*pw K))):
 SameC s (V:Int) K A B:=by
 constructor
 ·intro r hr
  obtain ⟨q,h,q1,q2,q3⟩:=rvi_rep3 r
  have h9:=HC q h 0 (by omega) (by omega)
  unfold cR rdC
  rw [rT_nat,rvs_nat9,q1]
  rw [Nat.pow_zero,Nat.one_mul] at h9
  rw [h9]
  congr 1
  show (1:Int)*_=_
  rw [Int.one_mul]
 ·intro r hr
  obtain ⟨q,h,q1,q2,q3⟩:=rvi_rep3 r
  have h9:=HC (2*q+1) h 1 (by omega) (by omega)
  unfold cM rdM
  rw [show (r:Int)+1=((r+1:Nat):Int) by omega,rT_nat,rT_nat,rvs_nat9,rvs_nat9,cmpI_swap]
  congr 1
  have e1:rvi r*2^s+rvi (r+1)*2^s=(2*q+1)*2^h*2^s:=by
   rw [q1,q2,←Nat.add_mul,←Nat.add_mul];congr 2;omega
  have e2:rvi r+rvi (r+1)=(2*q+1)*2^h:=by rw [q1,q2,←Nat.add_mul];congr 1;omega
  rw [←Int.natCast_add,e1,←Int.natCast_add,e2]
  rw [Nat.pow_one] at h9
  rw [show (2:Int)*(V:Int)=((2*V:Nat):Int) by omega,h9]
  rfl
theorem cmpI_nat_scale (a b k:Nat) (hk:0<k):cmpI ((a*k:Nat):Int) ((b*k:Nat):Int)=cmpI (a:Int) (b:Int):=by
 rw [Int.natCast_mul,Int.natCast_mul];exact cmpI_scale _ _ _ (by omega)
theorem cmpN_lt {a b:Nat} (h:a<b):cmpI (a:Int) (b:Int)= -1:=by unfold cmpI;rw [if_pos (by omega)]
theorem cmpN_gt {a b:Nat} (h:b<a):cmpI (a:Int) (b:Int)=1:=by unfold cmpI;rw [if_neg (by omega),if_pos (by omega)]
theorem cmpN_eq {a b:Nat} (h:a=b):cmpI (a:Int) (b:Int)=0:=(cmpI_eq_zero _ _).2 (by omega)
theorem mark_cmp (q f F N M Q R st:Nat) (hq:q≤18014398509481984) (hN:0<N) (hM:M=N*Q+R) (hR:R<N) (hst:st=if R=0 then 0 else 1) (hQ:1152921504606846976≤Q):
 cmpI ((q*2^f:Nat):Int) (((4*Q+st)*2^F:Nat):Int)=cmpI ((q*2^f*N:Nat):Int) ((M*2^(F+2):Nat):Int):=by
 obtain ⟨P,hP⟩: ∃P,P=2^F:=⟨_,rfl⟩
 have hPp:0<P:=by rw [hP];exact Nat.two_pow_pos F
 have e4:2^(F+2)=4*P:=by rw [hP,Nat.pow_succ,Nat.pow_succ];omega
 rw [←hP,e4]
 rcases Nat.lt_or_ge f (F+2) with h|h
 ·-- below all of it
  have h2:2^f≤2*P:=by
   have:2^f≤2^(F+1):=Nat.pow_le_pow_right (by omega) (by omega)
   rw [Nat.pow_succ,←hP] at this;omega
  have h3:q*2^f≤18014398509481984*(2*P):=Nat.mul_le_mul hq h2
  have h5:1152921504606846976*P≤Q*P:=Nat.mul_le_mul_right _ hQ
  have h6:(4*Q+st)*P=4*(Q*P)+st*P:=by rw [Nat.add_mul,Nat.mul_assoc]
  have h7:q*2^f<(4*Q+st)*P:=by rw [h6];omega
  rw [cmpN_lt h7,cmpN_lt]
  have h8:q*2^f*N<Q*P*N:=Nat.mul_lt_mul_of_pos_right (by omega) hN
  have h9:M*(4*P)=4*(Q*P*N)+R*(4*P):=by
   rw [hM,Nat.add_mul];congr 1
   rw [Nat.mul_comm N Q,Nat.mul_assoc Q N,Nat.mul_comm N (4*P),←Nat.mul_assoc,←Nat.mul_assoc,Nat.mul_comm Q 4,Nat.mul_assoc 4,Nat.mul_assoc 4]
  rw [h9]
  have:=Nat.zero_le (R*(4*P))
  have h10:Q*P*N≤4*(Q*P*N):=Nat.le_mul_of_pos_left _ (by omega)
  omega
 ·-- a multiple of the unit
  obtain ⟨n,hn⟩: ∃n,n=q*2^(f-(F+2)):=⟨_,rfl⟩
  have h1:q*2^f=n*(4*P):=by
   rw [hn,Nat.mul_assoc,←e4,←Nat.pow_add];congr 2;omega
  rw [h1]
  have e1:n*(4*P)=(4*n)*P:=by rw [←Nat.mul_assoc,Nat.mul_comm n 4]
  have e2:n*(4*P)*N=(n*N)*(4*P):=by rw [Nat.mul_right_comm]
  rw [e2,cmpI_nat_scale (n*N) M (4*P) (by omega),e1,cmpI_nat_scale (4*n) (4*Q+st) P hPp,hM]
  have hst2:st≤1:=by rw [hst];split<;>omega
  rcases Nat.lt_trichotomy n Q with h2|h2|h2
  ·have h3:(n+1)*N≤Q*N:=Nat.mul_le_mul_right N h2
   rw [Nat.add_mul,Nat.one_mul,Nat.mul_comm Q N] at h3
   rw [cmpN_lt (by omega),cmpN_lt (by omega)]
  ·subst h2
   rw [Nat.mul_comm n N]
   by_cases h0:R=0
   ·rw [if_pos h0] at hst
    rw [cmpN_eq (by omega),cmpN_eq (by omega)]
   ·rw [if_neg h0] at hst
    rw [cmpN_lt (by omega),cmpN_lt (by omega)]
  ·have h3:(Q+1)*N≤n*N:=Nat.mul_le_mul_right N h2
   rw [Nat.add_mul,Nat.one_mul,Nat.mul_comm Q N] at h3
   rw [cmpN_gt (by omega),cmpN_gt (by omega)]
theorem same_exact (K A:Nat):SameC 0 ((A*2^K:Nat):Int) K A 1:=by
 refine same_of 0 (A*2^K) K A 1 (fun q h c _ _=>?_)
 rw [Nat.pow_zero,Nat.mul_one,show ((1:Nat):Int)=1 from rfl,Int.mul_one,Int.natCast_mul (2^c),Int.natCast_mul A]
 rfl
theorem same_mark (K s M0 N0 tz tb kk Q R st F:Nat) (hN:0<N0) (hM:M0*2^kk=N0*Q+R) (hR:R<N0) (hst:st=if R=0 then 0 else 1) (hQ:1152921504606846976≤Q)
 (hF:F+2+tb+kk=tz+K+s):SameC s (((4*Q+st)*2^F:Nat):Int) K (M0*2^tz) (N0*2^tb):=by
 refine same_of s ((4*Q+st)*2^F) K _ _ (fun q h c hq hc=>?_)
 have h1:=mark_cmp q (h+s) (F+c) N0 (M0*2^kk) Q R st hq hN hM hR hst hQ
 have e1:q*2^h*2^s=q*2^(h+s):=by rw [Nat.mul_assoc,←Nat.pow_add]
 have e2:2^c*((4*Q+st)*2^F)=(4*Q+st)*2^(F+c):=by rw [Nat.mul_left_comm,←Nat.pow_add,Nat.add_comm c F]
 rw [e1,e2,h1]
 have e3:(((q*2^h:Nat):Int)*((N0*2^tb:Nat):Int))=((q*2^h*(N0*2^tb):Nat):Int):=by rw [Int.natCast_mul (q*2^h)]
 have e4:(((2^c:Nat):Int)*(((M0*2^tz:Nat):Int)*pw K))=((2^c*(M0*2^tz*2^K):Nat):Int):=by
  rw [pw_nat,←Int.natCast_mul,←Int.natCast_mul]
 rw [e3,e4]
 have hp1:0<2^(tb+kk):=Nat.two_pow_pos _
 have hp2:0<2^(kk+s):=Nat.two_pow_pos _
 rw [←cmpI_nat_scale (q*2^(h+s)*N0) _ (2^(tb+kk)) hp1,←cmpI_nat_scale (q*2^h*(N0*2^tb)) _ (2^(kk+s)) hp2]
 congr 2
 ·rw [Nat.pow_add,Nat.pow_add,Nat.pow_add]
  simp only [Nat.mul_assoc,Nat.mul_comm,Nat.mul_left_comm]
 ·have a1:M0*2^kk*2^(F+c+2)*2^(tb+kk)=M0*2^(kk+(F+c+2)+(tb+kk)):=by
   rw [Nat.mul_assoc,Nat.mul_assoc,←Nat.pow_add,←Nat.pow_add];congr 2;omega
  have a2:2^c*(M0*2^tz*2^K)*2^(kk+s)=M0*2^(c+tz+K+(kk+s)):=by
   rw [Nat.mul_assoc M0,←Nat.pow_add,Nat.mul_left_comm,Nat.mul_assoc,←Nat.pow_add,←Nat.pow_add];congr 2;omega
  rw [a1,a2];congr 2;omega
theorem same_high (s V K A B:Nat) (h1:rvi 9218868437227405312*2^s<V) (h2:rvi 9218868437227405312*B<A*2^K):SameC s (V:Int) K A B:=by
 have hm: ∀r:Nat,(r:Int)≤9218868437227405312→rvi r≤rvi 9218868437227405312:=fun r hr=>by
  rcases Nat.lt_or_ge r 9218868437227405312 with h|h
  ·exact Nat.le_of_lt (rvi_mono h)
  ·rw [show r=9218868437227405312 by omega];exact Nat.le_refl _
 have k1: ∀r:Nat,(r:Int)≤9218868437227405312→rvi r*2^s<V:=fun r hr=>Nat.lt_of_le_of_lt (Nat.mul_le_mul_right _ (hm r hr)) h1
 have k2: ∀r:Nat,(r:Int)≤9218868437227405312→rvi r*B<A*2^K:=fun r hr=>Nat.lt_of_le_of_lt (Nat.mul_le_mul_right _ (hm r hr)) h2
 constructor
 ·intro r hr
  unfold cR rdC
  rw [rT_nat,rvs_nat9,←Int.natCast_mul,pw_nat,←Int.natCast_mul,cmpN_lt (k1 r hr),cmpN_lt (k2 r hr)]
 ·intro r hr
  have a1:=k1 r (by omega)
  have a2:=k1 (r+1) (by omega)
  have b1:=k2 r (by omega)
  have b2:=k2 (r+1) (by omega)
  unfold cM rdM
  rw [show (r:Int)+1=((r+1:Nat):Int) by omega,rT_nat,rT_nat,rvs_nat9,rvs_nat9,←Int.natCast_add,←Int.natCast_add,←Int.natCast_mul,pw_nat,←Int.natCast_mul,
   show (2:Int)*(V:Int)=((2*V:Nat):Int) by omega,show (2:Int)*((A*2^K:Nat):Int)=((2*(A*2^K):Nat):Int) by omega,Nat.add_mul,cmpN_gt (by omega),cmpN_lt (by omega)]
  rfl
theorem same_low (s V K A B:Nat) (h0:0<V) (h1:2*V<2^s) (h2:0<A*2^K) (h3:2*(A*2^K)<B):SameC s (V:Int) K A B:=by
 have hm: ∀r:Nat,0<r→1≤rvi r:=fun r hr=>by
  have:= @rvi_mono 0 r hr
  rw [rvi_zero] at this;omega
 constructor
 ·intro r hr
  unfold cR rdC
  rw [rT_nat,rvs_nat9,←Int.natCast_mul,pw_nat,←Int.natCast_mul]
  by_cases hr0:r=0
  ·subst hr0
   rw [rvi_zero,Nat.zero_mul,Nat.zero_mul,cmpN_lt h0,cmpN_lt h2]
  ·have h5:=hm r (by omega)
   have a1:=Nat.mul_le_mul_right (2^s) h5
   have a2:=Nat.mul_le_mul_right B h5
   rw [cmpN_gt (by omega),cmpN_gt (by omega)]
 ·intro r hr
  have h5:=hm (r+1) (by omega)
  have a1:=Nat.mul_le_mul_right (2^s) h5
  have a2:=Nat.mul_le_mul_right B h5
  unfold cM rdM
  rw [show (r:Int)+1=((r+1:Nat):Int) by omega,rT_nat,rT_nat,rvs_nat9,rvs_nat9,←Int.natCast_add,←Int.natCast_add,←Int.natCast_mul,pw_nat,←Int.natCast_mul,
   show (2:Int)*(V:Int)=((2*V:Nat):Int) by omega,show (2:Int)*((A*2^K:Nat):Int)=((2*(A*2^K):Nat):Int) by omega,Nat.add_mul,cmpN_lt (by omega),cmpN_gt (by omega)]
end Go.Ulp
