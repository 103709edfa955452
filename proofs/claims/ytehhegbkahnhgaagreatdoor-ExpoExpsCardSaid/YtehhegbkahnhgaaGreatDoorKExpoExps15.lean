/- ExpoExps: what the proof leans on, part 15 (Su0 Rp1 Eg0 Gp0 Gp1). -/
import Derived.Test.YtehhegbkahnhgaaGreatDoorKExpoExps11
import Derived.Test.YtehhegbkahnhgaaGreatDoorKExpoExps13
import Derived.Test.YtehhegbkahnhgaaGreatDoorKExpoExps14
set_option linter.unusedVariables false
set_option linter.unusedSimpArgs false
namespace Go.Ulp
open Go.RowKit
def rX (D:Dy) (mode:Int):Int:=numX (decide (D.1<0)) D.1.natAbs D.2 mode
def rC (D:Dy) (mode:Int):Bool:=numC (decide (D.1<0)) D.1.natAbs D.2 mode
def isNan (x:Int):Bool:=classOf x==5
def isInf (x:Int):Bool:=classOf x==4
def isZer (x:Int):Bool:=classOf x==1
theorem class_inf (x:Int) (h0:0≤x) (h1:x<18446744073709551616):classOf x=4↔absOf x=9218868437227405312:=by
 have a:=class_nan x h0 h1
 have b:=class_val x h0 h1
 have c:=class_bd x
 have d:classOf x=4↔(4≤classOf x∧ ¬classOf x=5):=by omega
 rw [d,a,b]
 omega
theorem class_zer (x:Int) (h0:0≤x) (h1:x<18446744073709551616):classOf x=1↔absOf x=0:=by
 unfold classOf absOf expOf fracOf
 split
 ·split<;>omega
 ·split
  ·omega
  ·split<;>omega
theorem inf_bits (x:Int) (h0:0≤x) (h1:x<18446744073709551616) (h:classOf x=4):x=if negB x then 18442240474082181120 else 9218868437227405312:=by
 have a:=(class_inf x h0 h1).1 h
 unfold absOf at a
 unfold negB
 by_cases c:9223372036854775808≤x
 ·rw [decide_eq_true c,if_pos rfl];omega
 ·rw [decide_eq_false c,if_neg (by simp)];omega
def uV (x:Int):Int:=if classOf x<4 then rvs (rankOf x) else 0
def anyTo (p:Int→Bool) (L:List Nat):Nat→Bool
 |0=>false
 |i+1=>anyTo p L i||p (lb L i)
def cntTo (p:Int→Bool) (L:List Nat):Nat→Nat
 |0=>0
 |i+1=>cntTo p L i+(if p (lb L i) then 1 else 0)
def sumTo (L:List Nat):Nat→Int
 |0=>0
 |i+1=>sumTo L i+uV (lb L i)
def infTo (L:List Nat):Nat→Int
 |0=>0
 |i+1=>if isInf (lb L i) then lb L i else infTo L i
def clashTo (L:List Nat):Nat→Bool
 |0=>false
 |i+1=>if isInf (lb L i) then clashTo L i||(decide (infTo L i≠0)&&decide (infTo L i≠lb L i)) else clashTo L i
def pInf (x:Int):Bool:=isInf x&&!negB x
def mInf (x:Int):Bool:=isInf x&&negB x
def pZer (x:Int):Bool:=isZer x&&!negB x
def mZer (x:Int):Bool:=isZer x&&negB x
theorem inf_state (L:List Nat) (hL: ∀j,lb L j<18446744073709551616): ∀i,
 (infTo L i=0∧anyTo pInf L i=false∧anyTo mInf L i=false∧clashTo L i=false)
 ∨(infTo L i=9218868437227405312∧anyTo pInf L i=true∧clashTo L i=anyTo mInf L i)
 ∨(infTo L i=18442240474082181120∧anyTo mInf L i=true∧clashTo L i=anyTo pInf L i)
 |0=>.inl ⟨rfl,rfl,rfl,rfl⟩
 |i+1=>by
  have h:=inf_state L hL i
  have h0:=lb_nonneg L i
  have h1:=hL i
  rw [show infTo L (i+1)=if isInf (lb L i) then lb L i else infTo L i from rfl,show clashTo L (i+1)=if isInf (lb L i) then clashTo L i||(decide (infTo L i≠0)&&decide (infTo L i≠lb L i)) else clashTo L i from rfl,
   show anyTo pInf L (i+1)=(anyTo pInf L i||pInf (lb L i)) from rfl,show anyTo mInf L (i+1)=(anyTo mInf L i||mInf (lb L i)) from rfl]
  cases hi:isInf (lb L i)
  ·have hp:pInf (lb L i)=false:=by unfold pInf;rw [hi];rfl
   have hm:mInf (lb L i)=false:=by unfold mInf;rw [hi];rfl
   rw [hp,hm,Bool.or_false,Bool.or_false,if_neg (by simp),if_neg (by simp)]
   exact h
  ·have e:=inf_bits (lb L i) h0 h1 (beq_iff_eq.1 hi)
   rw [if_pos rfl,if_pos rfl]
   cases hn:negB (lb L i)
   ·have hp:pInf (lb L i)=true:=by unfold pInf;rw [hi,hn];rfl
    have hm:mInf (lb L i)=false:=by unfold mInf;rw [hi,hn];rfl
    rw [hn,if_neg (by simp)] at e
    rw [hp,hm,e,Bool.or_false,Bool.or_true]
    right;left
    refine ⟨rfl,rfl,?_⟩
    rcases h with ⟨a,b,c,d⟩|⟨a,b,c⟩|⟨a,b,c⟩
    ·rw [a,d,c];rfl
    ·rw [a,c];simp
    ·rw [a,b];simp
   ·have hp:pInf (lb L i)=false:=by unfold pInf;rw [hi,hn];rfl
    have hm:mInf (lb L i)=true:=by unfold mInf;rw [hi,hn];rfl
    rw [hn,if_pos rfl] at e
    rw [hp,hm,e,Bool.or_false,Bool.or_true]
    right;right
    refine ⟨rfl,rfl,?_⟩
    rcases h with ⟨a,b,c,d⟩|⟨a,b,c⟩|⟨a,b,c⟩
    ·rw [a,d,b];rfl
    ·rw [a,b];simp
    ·rw [a,c];simp
def sNan (L:List Nat):Bool:=anyTo isNan L L.length||(anyTo pInf L L.length&&anyTo mInf L L.length)
def sInf (L:List Nat):Bool:=anyTo pInf L L.length||anyTo mInf L L.length
end Go.Ulp
namespace Go.Proofs.YtehhegbkahnhgaaGreatDoor
open Go.RowKit Go.Ulp
set_option maxHeartbeats 1000000
set_option maxRecDepth 100000
theorem rIsNan_any (x:Int) (h0:0≤x) (h1:x<18446744073709551616) (w:World):
 Calls Tryz.prog 27 #[.int .u64 x] w fun e w'=>e=.returned (.bool (isNan x))∧w=w':=by
 have CL:=hid (fun w=>classOf_any x h0 h1 w)
 have HC:=hid (show (classOf x==5)=isNan x from rfl)
 generalize classOf x=c at *
 go_enter Tryz.func27,Tryz.ntmps27
 go_wp2_with (go_at_call 74;(with_reducible refine (CL.out _).mono ?_);rintro en w1 ⟨rfl,rfl⟩)
 go_ret
 exact ⟨ret_bool HC.out,rfl⟩
theorem rIsInf_any (x:Int) (h0:0≤x) (h1:x<18446744073709551616) (w:World):
 Calls Tryz.prog 29 #[.int .u64 x] w fun e w'=>e=.returned (.bool (isInf x))∧w=w':=by
 have CL:=hid (fun w=>classOf_any x h0 h1 w)
 have HC:=hid (show (classOf x==4)=isInf x from rfl)
 generalize classOf x=c at *
 go_enter Tryz.func29,Tryz.ntmps29
 go_wp2_with (go_at_call 74;(with_reducible refine (CL.out _).mono ?_);rintro en w1 ⟨rfl,rfl⟩)
 go_ret
 exact ⟨ret_bool HC.out,rfl⟩
theorem rIsZero_any (x:Int) (h0:0≤x) (h1:x<18446744073709551616) (w:World):
 Calls Tryz.prog 31 #[.int .u64 x] w fun e w'=>e=.returned (.bool (isZer x))∧w=w':=by
 have CL:=hid (fun w=>classOf_any x h0 h1 w)
 have HC:=hid (show (classOf x==1)=isZer x from rfl)
 generalize classOf x=c at *
 go_enter Tryz.func31,Tryz.ntmps31
 go_wp2_with (go_at_call 74;(with_reducible refine (CL.out _).mono ?_);rintro en w1 ⟨rfl,rfl⟩)
 go_ret
 exact ⟨ret_bool HC.out,rfl⟩
theorem rMinus_any (x:Int) (h0:0≤x) (h1:x<18446744073709551616) (w:World):
 Calls Tryz.prog 30 #[.int .u64 x] w fun e w'=>e=.returned (.bool (negB x))∧w=w':=by
 go_enter Tryz.func30,Tryz.ntmps30
 go_wp2_with fail
 go_ret
 exact ⟨ret_bool rfl,rfl⟩
theorem rQuiet_any (w:World):Calls Tryz.prog 28 #[] w fun e w'=>e=.returned (.int .u64 9221120237041090560)∧w=w':=by
 go_enter Tryz.func28,Tryz.ntmps28
 go_wp2_with fail
 go_ret
 exact ⟨rfl,rfl⟩
theorem rSigned_any (x:Int) (h0:0≤x) (h1:x<9223372036854775808) (neg:Bool) (w:World):
 Calls Tryz.prog 32 #[.int .u64 x,.bool neg] w fun e w'=>e=.returned (.int .u64 (x+sgb neg))∧w=w':=by
 cases neg
 ·go_enter Tryz.func32,Tryz.ntmps32
  go_wp2_with fail
  go_ret
  exact ⟨ret_int (by unfold sgb;rw [if_neg (by simp),Int.add_zero]),rfl⟩
 ·go_enter Tryz.func32,Tryz.ntmps32
  go_wp2_with fail
  go_ret
  exact ⟨ret_int (by unfold sgb;rw [if_pos rfl]),rfl⟩
theorem numberD_any (v:Value) (D:Dy) (mode:Int) (w:World) (hv:VD w D v) (hl:(limbs D.1.natAbs).length≤4294967296) (he: -100000000000≤D.2∧D.2≤100000000000) (hI:IsN D):
 Calls Tryz.prog 68 #[v,.int .i64 mode] w (RetX w (rX D mode) (rC D mode)):=by
 obtain ⟨am,cm,rfl,hN⟩:=hv
 exact number_any (decide (D.1<0)) am cm D.1.natAbs D.2 mode w hN hl he (fun h=>by
  rcases hI with h2|h2
  ·exact h2.2
  ·rw [h] at h2;omega)
end Go.Proofs.YtehhegbkahnhgaaGreatDoor
namespace Go.Ulp
open Go.RowKit
theorem rvs_nat9 (a:Nat):rvs (a:Int)=(rvi a:Int):=by unfold rvs;rw [if_neg (by omega),Int.natAbs_natCast]
def rdC (K A B:Nat) (l:Int):Int:=cmpI (rvs l*(B:Int)) ((A:Int)*pw K)
def rdM (K A B:Nat) (l:Int):Int:=cmpI ((rvs l+rvs (l+1))*(B:Int)) (2*((A:Int)*pw K))
def rdU (K A B:Nat) (mode l:Int):Bool:=decide (mode=1∨(mode=0∧(rdM K A B l<0∨(rdM K A B l=0∧l%2=1)))∨(mode=4∧rdM K A B l≤0))
def rdA (K A B:Nat) (mode l:Int):Int×Bool:=if rdC K A B l=0 then (l,false) else if rdU K A B mode l=true then (l+1,true) else (l,true)
def swM (mode:Int):Int:=if mode=1 then 2 else if mode=2 then 1 else mode
theorem up_sw (odd:Bool) (half mode:Int) (m0:0≤mode) (m1:mode≤4):upN true odd half mode=upN false odd half (swM mode):=by
 unfold upN swM
 by_cases h1:mode=1
 ·subst h1;rfl
 by_cases h2:mode=2
 ·subst h2;rfl
 rw [if_neg h1,if_neg h2,if_neg h1,if_neg h2,if_neg h1,if_neg h2]
theorem over_sw (mode:Int) (m0:0≤mode) (m1:mode≤4):overA true mode=overA false (swM mode):=by
 have:mode=0∨mode=1∨mode=2∨mode=3∨mode=4:=by omega
 rcases this with h|h|h|h|h<;>subst h<;>rfl
theorem num_sw (M:Nat) (e mode:Int) (m0:0≤mode) (m1:mode≤4):numX true M e mode=numX false M e (swM mode)+9223372036854775808∧numC true M e mode=numC false M e (swM mode):=by
 have hc: ∀j,cutN true M j mode=cutN false M j (swM mode):=by
  intro j
  unfold cutN
  split
  ·rfl
  ·rw [up_sw _ _ mode m0 m1]
 have hr:numR true M e mode=numR false M e (swM mode):=by
  unfold numR;rw [hc]
 unfold numX numC
 rw [hr]
 refine ⟨?_,rfl⟩
 unfold capX
 rw [over_sw mode m0 m1]
 have s1:sgb true=9223372036854775808:=rfl
 have s0:sgb false=0:=rfl
 rw [s1,s0]
 split
 ·omega
 ·omega
def SameC (s:Nat) (V:Int) (K A B:Nat):Prop:=(∀r:Nat,(r:Int)≤9218868437227405312→cR s V r=rdC K A B r)∧(∀r:Nat,(r:Int)<9218868437227405312→cM s V r= -rdM K A B r)
theorem read_pos (M:Nat) (e mode:Int) (K A B s l:Nat) (m0:0≤mode) (m1:mode≤4) (hM:0<M) (hs:0≤e+1074+s) (SC:SameC s ((M*2^(e+1074+s).toNat:Nat):Int) K A B)
 (l1:(l:Int)<9218868437227405312) (l2:rdC K A B l≤0) (l3:(l:Int)+1=9218868437227405312∨0<rdC K A B ((l:Int)+1)):
 (numX false M e mode,numC false M e mode)=rdA K A B mode l:=by
 have a:=number_rnd false M e mode s m0 m1 (fun h=>rfl) hs
 obtain ⟨V,hV⟩: ∃V:Nat,V=M*2^(e+1074+s).toNat:=⟨_,rfl⟩
 rw [←hV] at a SC
 have hVp:0<V:=by rw [hV];exact Nat.mul_pos hM (Nat.two_pow_pos _)
 have cl:cR s (sg false (V:Int)) (l:Int)=rdC K A B l:=SC.1 l (by omega)
 have cl1:=SC.1 (l+1) (by omega)
 have cm:cM s (sg false (V:Int)) (l:Int)= -rdM K A B l:=SC.2 l l1
 rw [show ((l+1:Nat):Int)=(l:Int)+1 by omega] at cl1
 have low:IsLow (cR s (sg false (V:Int))) l:=⟨by omega,l1,.inr (by rw [cl];exact l2),by
  show (l:Int)+1=_∨0<cR s (V:Int) ((l:Int)+1)
  rw [cl1];exact l3⟩
 obtain ⟨l',lw,an⟩:=a
 have hl:=low_uniq lw low
 subst hl
 have hcz:cmpI (sg false (V:Int)) 0=1:=by
  show cmpI (V:Int) 0=1
  unfold cmpI;split
  ·omega
  ·split<;>omega
 rw [an,hcz]
 unfold ansR rdA
 rw [cl,cm,show decide ((1:Int)<0)=false from rfl,tell_pos _ (by omega),tell_pos _ (by omega),ranked_pos _ (by omega)]
 by_cases hz:rdC K A B l=0
 ·rw [if_pos ⟨by omega,hz⟩,if_pos hz]
 ·rw [if_neg (fun h=>hz h.2),if_neg hz]
  have hu:upR false mode (-rdM K A B l) ((l:Int)+1)=rdU K A B mode l:=by
   unfold upR rdU
   by_cases h0:rdM K A B l=0
   ·by_cases hm0:mode=0
    ·rw [if_pos ⟨by omega,hm0⟩,decide_eq_decide];omega
    ·rw [if_neg (fun h=>hm0 h.2)]
     by_cases hm4:mode=4
     ·rw [if_pos ⟨by omega,hm4⟩,eq_comm];exact decide_eq_true (by omega)
     ·rw [if_neg (fun h=>hm4 h.2),decide_eq_decide]
      simp only [Bool.false_eq_true,and_false,false_or]
      omega
   ·rw [if_neg (fun h=>h0 (by omega)),if_neg (fun h=>h0 (by omega)),decide_eq_decide]
    simp only [Bool.false_eq_true,and_false,false_or]
    omega
  rw [hu]
theorem read_sg (neg:Bool) (M:Nat) (e mode:Int) (K A B s l:Nat) (m0:0≤mode) (m1:mode≤4) (hM:0<M) (hs:0≤e+1074+s) (SC:SameC s ((M*2^(e+1074+s).toNat:Nat):Int) K A B)
 (l1:(l:Int)<9218868437227405312) (l2:rdC K A B l≤0) (l3:(l:Int)+1=9218868437227405312∨0<rdC K A B ((l:Int)+1)):
 numX neg M e mode=(rdA K A B (if neg=true then swM mode else mode) l).1+sgb neg∧numC neg M e mode=(rdA K A B (if neg=true then swM mode else mode) l).2:=by
 cases neg
 ·have h:=read_pos M e mode K A B s l m0 m1 hM hs SC l1 l2 l3
  rw [if_neg (by simp),←h]
  exact ⟨by show _=_+0;omega,rfl⟩
 ·have hsw:0≤swM mode∧swM mode≤4:=by unfold swM;split<;>(try split)<;>omega
  have h:=read_pos M e (swM mode) K A B s l hsw.1 hsw.2 hM hs SC l1 l2 l3
  obtain ⟨h1,h2⟩:=num_sw M e mode m0 m1
  rw [if_pos rfl,←h,h1,h2]
  exact ⟨rfl,rfl⟩
theorem cmpI_scale (a b k:Int) (hk:0<k):cmpI (a*k) (b*k)=cmpI a b:=by
 rcases Int.lt_trichotomy a b with h|h|h
 ·have:=Int.mul_lt_mul_of_pos_right h hk
  rw [show cmpI a b= -1 by unfold cmpI;rw [if_pos h]]
  unfold cmpI;rw [if_pos this]
 ·subst h
  rw [(cmpI_eq_zero _ _).2 rfl,(cmpI_eq_zero _ _).2 rfl]
 ·have:=Int.mul_lt_mul_of_pos_right h hk
  have e1:cmpI a b=1:=by unfold cmpI;rw [if_neg (by omega),if_pos h]
  rw [e1]
  unfold cmpI;rw [if_neg (by omega),if_pos this]
theorem rank_rk9 (l:Int) (h0: -9218868437227405312≤l) (h1:l≤9218868437227405312):rankOf (ranked l)=l:=by
 unfold ranked rankOf
 split<;>split<;>omega
theorem rank_tl9 (b:Bool) (l:Int) (h0: -9218868437227405312≤l) (h1:l≤9218868437227405312):rankOf (tellR b l)=l:=by
 unfold tellR
 split
 ·rename_i h;rw [h.1];rfl
 ·exact rank_rk9 l h0 h1
theorem low_mono9 {s:Nat} {V V' l l':Int} (h:IsLow (cR s V) l) (h':IsLow (cR s V') l') (hV:V≤V'):l≤l':=by
 rcases Int.lt_or_le l' l with h9|h9
 ·exfalso
  obtain ⟨a1,a2,a3,a4⟩:=h
  obtain ⟨b1,b2,b3,b4⟩:=h'
  have c1:cR s V l≤0:=by rcases a3 with k|k;omega;exact k
  have c2:0<cR s V' (l'+1):=by rcases b4 with k|k;omega;exact k
  unfold cR at c1 c2
  have d1:=(cmpI_le _ _).1 c1
  have d2:=(cmpI_gt _ _).1 c2
  have d3:=rT_le s (show l'+1≤l by omega)
  omega
 ·exact h9
def rkA (c cm:Int→Int) (cz mode l:Int):Int:=if -9218868437227405312<l∧c l=0 then l else if upR (decide (cz<0)) mode (cm l) (l+1)=true then l+1 else l
theorem rkA_bd (c cm:Int→Int) (cz mode l:Int):l≤rkA c cm cz mode l∧rkA c cm cz mode l≤l+1:=by
 unfold rkA
 split
 ·omega
 ·split<;>omega
theorem cmpI_sgn0 (V:Int):(cmpI V 0<0↔V<0)∧(cmpI V 0=0↔V=0):=by
 unfold cmpI
 split
 ·omega
 ·split<;>omega
theorem ans_rk {s:Nat} {V mode l:Int} (hl:IsLow (cR s V) l) (hV:V≠0):(ansR (cR s V) (cM s V) (cmpI V 0) mode l).1=tellR (decide (V<0)) (rkA (cR s V) (cM s V) (cmpI V 0) mode l):=by
 have e:decide (cmpI V 0<0)=decide (V<0):=decide_eq_decide.2 (cmpI_sgn0 V).1
 unfold ansR rkA
 rw [e]
 by_cases hc: -9218868437227405312<l∧cR s V l=0
 ·rw [if_pos hc,if_pos hc]
  have h0:l≠0:=fun h=>hV (by
   have h2:=hc.2
   rw [h] at h2
   unfold cR at h2
   rw [rT_zero] at h2
   exact ((cmpI_eq_zero _ _).1 h2).symm)
  show ranked l=_
  unfold tellR
  rw [if_neg (fun h=>h0 h.1)]
 ·rw [if_neg hc,if_neg hc]
  split<;>rfl
theorem up_mono9 (neg:Bool) (mode n1 n2 h:Int) (hn:n1≤n2) (a: -1≤n1) (b:n2≤1) (u:upR neg mode n1 h=true):upR neg mode n2 h=true:=by
 unfold upR at u ⊢
 have c1:n1= -1∨n1=0∨n1=1:=by omega
 have c2:n2= -1∨n2=0∨n2=1:=by omega
 rcases c1 with e|e|e<;>rcases c2 with f|f|f<;>subst e<;>subst f
 all_goals first
  |omega
  |exact u
  |(by_cases m0:mode=0
    ·subst m0;simp at u ⊢
    ·by_cases m4:mode=4
     ·subst m4;simp at u ⊢ <;>try exact u
     ·simp [m0,m4] at u ⊢;exact u)
theorem cmpI_three (a b:Int): -1≤cmpI a b∧cmpI a b≤1:=by unfold cmpI;split<;>(try split)<;>omega
theorem cmpI_mono {a b c:Int} (h:a≤b):cmpI a c≤cmpI b c:=by unfold cmpI;split<;>split<;>(try split)<;>(try split)<;>omega
theorem rkA_mono {s:Nat} {V V' mode l l':Int} (hl:IsLow (cR s V) l) (hl':IsLow (cR s V') l') (hV:V≤V'):rkA (cR s V) (cM s V) (cmpI V 0) mode l≤rkA (cR s V') (cM s V') (cmpI V' 0) mode l':=by
 have hm:=low_mono9 hl hl' hV
 have b1:=rkA_bd (cR s V) (cM s V) (cmpI V 0) mode l
 have b2:=rkA_bd (cR s V') (cM s V') (cmpI V' 0) mode l'
 by_cases hlt:l<l'
 ·omega
 ·have he:l=l':=by omega
  subst he
  by_cases hc: -9218868437227405312<l∧cR s V l=0
  ·have:rkA (cR s V) (cM s V) (cmpI V 0) mode l=l:=by unfold rkA;rw [if_pos hc]
   omega
  ·have hc': ¬(-9218868437227405312<l∧cR s V' l=0):=by
    intro h
    apply hc
    refine ⟨h.1,?_⟩
    have k1:cR s V l≤0:=by rcases hl.2.2.1 with k|k;omega;exact k
    have k2:=h.2
    unfold cR at k1 k2 ⊢
    have d1:=(cmpI_le _ _).1 k1
    have d2:=(cmpI_eq_zero _ _).1 k2
    exact (cmpI_eq_zero _ _).2 (by omega)
   have hs:decide (cmpI V 0<0)=decide (cmpI V' 0<0):=by
    rw [decide_eq_decide,(cmpI_sgn0 V).1,(cmpI_sgn0 V').1]
    constructor
    ·intro hn
     have l0:l<0:=by
      rcases Int.lt_or_le l 0 with k|k
      ·exact k
      ·exfalso
       have k1:cR s V l≤0:=by rcases hl.2.2.1 with k|k;omega;exact k
       unfold cR at k1
       have d1:=(cmpI_le _ _).1 k1
       have d2:=rT_le s k
       rw [rT_zero] at d2
       omega
     have k2:0<cR s V' (l+1):=by rcases hl'.2.2.2 with k|k;omega;exact k
     unfold cR at k2
     have d1:=(cmpI_gt _ _).1 k2
     have d2:=rT_le s (show l+1≤0 by omega)
     rw [rT_zero] at d2
     omega
    ·intro hn;omega
   unfold rkA
   rw [if_neg hc,if_neg hc',←hs]
   have hcm:cM s V l≤cM s V' l:=cmpI_mono (by omega)
   by_cases hu:upR (decide (cmpI V 0<0)) mode (cM s V l) (l+1)=true
   ·rw [if_pos hu,if_pos (up_mono9 _ mode _ _ _ hcm (cmpI_three _ _).1 (cmpI_three _ _).2 hu)]
    exact Int.le_refl _
   ·rw [if_neg hu]
    split<;>omega
theorem tell_inj {b b':Bool} {r r':Int} (h:tellR b r=tellR b' r') (h0: -9218868437227405312≤r∧r≤9218868437227405312) (h1: -9218868437227405312≤r'∧r'≤9218868437227405312):r=r'∧(r=0→b=b'):=by
 have e:=congrArg rankOf h
 rw [rank_tl9 b r h0.1 h0.2,rank_tl9 b' r' h1.1 h1.2] at e
 refine ⟨e,?_⟩
 intro hr
 subst e
 subst hr
 unfold tellR ranked at h
 cases b<;>cases b'<;>simp at h ⊢
theorem rnd_mid {s:Nat} {V1 V V2 mode x y:Int} {c1 c2 c:Bool} (h1:Rnd s V1 mode x c1) (h2:Rnd s V2 mode x c2) (h:Rnd s V mode y c) (a:V1≤V) (b:V≤V2) (n1:V1≠0) (n2:V2≠0):y=x:=by
 obtain ⟨l1,i1,e1⟩:=h1
 obtain ⟨l2,i2,e2⟩:=h2
 obtain ⟨l,i,e⟩:=h
 have f1:=congrArg Prod.fst e1
 have f2:=congrArg Prod.fst e2
 have f:=congrArg Prod.fst e
 simp only at f1 f2 f
 rw [ans_rk i1 n1] at f1
 rw [ans_rk i2 n2] at f2
 have m1:=rkA_mono (mode:=mode) i1 i a
 have m2:=rkA_mono (mode:=mode) i i2 b
 have bd: ∀ {V l},IsLow (cR s V) l→ -9218868437227405312≤rkA (cR s V) (cM s V) (cmpI V 0) mode l∧rkA (cR s V) (cM s V) (cmpI V 0) mode l≤9218868437227405312:=by
  intro V l hl
  have b1:=rkA_bd (cR s V) (cM s V) (cmpI V 0) mode l
  have b2:=hl.1
  have b3:=hl.2.1
  omega
 have key:=tell_inj (f1.symm.trans f2) (bd i1) (bd i2)
 by_cases hV:V=0
 ·exfalso
  subst hV
  have s1:V1<0:=by omega
  have s2:0<V2:=by omega
  have hz:rkA (cR s 0) (cM s 0) (cmpI 0 0) mode l=0:=by
   have hz0:IsLow (cR s 0) 0:=by
    refine ⟨by omega,by omega,.inr ?_,.inr ?_⟩
    ·unfold cR;rw [rT_zero];decide
    ·unfold cR
     have:=rT_mono s (show (0:Int)<0+1 by omega)
     rw [rT_zero] at this
     exact (cmpI_gt _ _).2 this
   have:=low_uniq i hz0
   subst this
   unfold rkA
   rw [if_pos ⟨by omega,by unfold cR;rw [rT_zero];decide⟩]
  have r1:rkA (cR s V1) (cM s V1) (cmpI V1 0) mode l1=0:=by omega
  have:=key.2 r1
  rw [decide_eq_true s1,decide_eq_false (by omega)] at this
  cases this
 ·rw [ans_rk i hV] at f
  have r1:rkA (cR s V) (cM s V) (cmpI V 0) mode l=rkA (cR s V1) (cM s V1) (cmpI V1 0) mode l1:=by omega
  rw [f,f1,r1]
  by_cases h0:rkA (cR s V1) (cM s V1) (cmpI V1 0) mode l1=0
  ·have e9:=key.2 h0
   rw [h0]
   congr 1
   by_cases s1:V1<0
   ·rw [decide_eq_true s1] at e9 ⊢
    have:=of_decide_eq_true e9.symm
    exact decide_eq_true (by omega)
   ·rw [decide_eq_false s1]
    exact decide_eq_false (by omega)
  ·unfold tellR
   rw [if_neg (fun h=>h0 h.1),if_neg (fun h=>h0 h.1)]
def st (x:Int) (D:Nat):Int:=2*(x*pw 1075/(D:Int))+(if x*pw 1075%(D:Int)=0 then 0 else 1)
theorem st_cmp (x G:Int) (D:Nat) (hD:0<D):cmpI (2*G) (st x D)=cmpI (G*(D:Int)) (x*pw 1075):=by
 unfold st
 generalize x*pw 1075=Y
 have hd:(0:Int)<(D:Int):=by omega
 have e:=Int.emod_add_mul_ediv Y (D:Int)
 have l0:=Int.emod_nonneg Y (show (D:Int)≠0 by omega)
 have l1:=Int.emod_lt_of_pos Y hd
 generalize Y/(D:Int)=q at *
 generalize Y%(D:Int)=r at *
 have key: ∀G:Int,G*(D:Int)<Y↔(G<q∨(G=q∧r≠0)):=by
  intro G
  rcases Int.lt_trichotomy G q with h|h|h
  ·have:(G+1)*(D:Int)≤q*(D:Int):=Int.mul_le_mul_of_nonneg_right (by omega) (by omega)
   rw [Int.add_mul,Int.one_mul] at this
   rw [Int.mul_comm q] at this
   omega
  ·subst h
   rw [Int.mul_comm G]
   omega
  ·have:(q+1)*(D:Int)≤G*(D:Int):=Int.mul_le_mul_of_nonneg_right (by omega) (by omega)
   rw [Int.add_mul,Int.one_mul] at this
   rw [Int.mul_comm q] at this
   omega
 have key2: ∀G:Int,G*(D:Int)=Y↔(G=q∧r=0):=by
  intro G
  constructor
  ·intro h
   have h1:=(key G)
   rcases Int.lt_trichotomy G q with k|k|k
   ·have:=h1.2 (.inl k);omega
   ·subst k;rw [Int.mul_comm G] at h;exact ⟨rfl,by omega⟩
   ·have:(q+1)*(D:Int)≤G*(D:Int):=Int.mul_le_mul_of_nonneg_right (by omega) (by omega)
    rw [Int.add_mul,Int.one_mul,Int.mul_comm q] at this
    omega
  ·rintro ⟨h1,h2⟩
   rw [h1,Int.mul_comm]
   omega
 have a1:=key G
 have a2:=key2 G
 generalize G*(D:Int)=W at *
 unfold cmpI
 by_cases hr:r=0
 ·rw [if_pos hr]
  split<;>split<;>(try split)<;>(try split)<;>omega
 ·rw [if_neg hr]
  split<;>split<;>(try split)<;>(try split)<;>omega
theorem cR_st (x:Int) (D:Nat) (hD:0<D) (r:Int):cR 2 (st x D) r=cmpI (2*rvs r*(D:Int)) (x*pw 1075):=by
 unfold cR rT
 rw [←st_cmp x (2*rvs r) D hD,show pw 2=4 by decide]
 congr 1
 omega
theorem cM_st (x:Int) (D:Nat) (hD:0<D) (r:Int):cM 2 (st x D) r= -cmpI ((rvs r+rvs (r+1))*(D:Int)) (x*pw 1075):=by
 unfold cM rT
 rw [←st_cmp x (rvs r+rvs (r+1)) D hD,show pw 2=4 by decide,←cmpI_swap]
 have: ∀a b:Int,cmpI (2*a) (2*b)=cmpI a b:=by intro a b;unfold cmpI;split<;>split<;>(try split)<;>(try split)<;>omega
 rw [←this (st x D) (2*(rvs r+rvs (r+1)))]
 congr 1
 omega
theorem st_sign (x:Int) (D:Nat) (hD:0<D):cmpI (st x D) 0=cmpI x 0:=by
 have h:=st_cmp x 0 D hD
 rw [Int.mul_zero,Int.zero_mul] at h
 rw [cmpI_swap,h,←cmpI_swap]
 have p:=pw_pos 1075
 have a:x*pw 1075<0↔x<0:=by
  constructor
  ·intro h2;exact Int.lt_of_not_ge fun h3=>by have:=Int.mul_nonneg h3 (Int.le_of_lt p);omega
  ·intro h2;exact Int.mul_neg_of_neg_of_pos h2 p
 have b:x*pw 1075=0↔x=0:=by
  constructor
  ·intro h2
   rcases Int.mul_eq_zero.1 h2 with h3|h3
   ·exact h3
   ·omega
  ·intro h2;rw [h2,Int.zero_mul]
 generalize x*pw 1075=y at *
 unfold cmpI
 split<;>split<;>(try split)<;>(try split)<;>omega
def sumQ (f:Nat→Rat):Nat→Rat
 |0=>0
 |n+1=>sumQ f n+f n
theorem sumQ_zero (f:Nat→Rat):sumQ f 0=0:=rfl
theorem sumQ_succ (f:Nat→Rat) (n:Nat):sumQ f (n+1)=sumQ f n+f n:=rfl
theorem sumQ_congr {f g:Nat→Rat}: ∀n,(∀i,i<n→f i=g i)→sumQ f n=sumQ g n
 |0,_=>rfl
 |n+1,h=>by rw [sumQ,sumQ,sumQ_congr n (fun i hi=>h i (by omega)),h n (by omega)]
theorem sumQ_add (f g:Nat→Rat): ∀n,sumQ (fun i=>f i+g i) n=sumQ f n+sumQ g n
 |0=>by simp only [sumQ];grind
 |n+1=>by simp only [sumQ];rw [sumQ_add f g n];grind
theorem sumQ_mul (c:Rat) (f:Nat→Rat): ∀n,sumQ (fun i=>c*f i) n=c*sumQ f n
 |0=>by simp only [sumQ];grind
 |n+1=>by simp only [sumQ];rw [sumQ_mul c f n];grind
theorem sumQ_none: ∀n,sumQ (fun _=>0) n=0
 |0=>rfl
 |n+1=>by simp only [sumQ];rw [sumQ_none n];grind
theorem sumQ_head (f:Nat→Rat): ∀n,sumQ f (n+1)=f 0+sumQ (fun i=>f (i+1)) n
 |0=>by simp only [sumQ];grind
 |n+1=>by rw [sumQ_succ,sumQ_head f n,sumQ_succ];grind
theorem sumQ_le {f g:Nat→Rat}: ∀n,(∀i,i<n→f i≤g i)→sumQ f n≤sumQ g n
 |0,_=>by simp only [sumQ];grind
 |n+1,h=>by
  have a:=sumQ_le n (fun i hi=>h i (by omega))
  have b:=h n (by omega)
  simp only [sumQ];grind
theorem sumQ_nonneg {f:Nat→Rat} (n:Nat) (h: ∀i,i<n→0≤f i):0≤sumQ f n:=by
 have:=sumQ_le n h
 rwa [sumQ_none] at this
theorem sumQ_swap (f:Nat→Nat→Rat) (a:Nat): ∀b,sumQ (fun i=>sumQ (f i) b) a=sumQ (fun j=>sumQ (fun i=>f i j) a) b
 |0=>by simp only [sumQ];exact sumQ_none a
 |b+1=>by simp only [sumQ];rw [sumQ_add,sumQ_swap f a b]
def divS (c:Rat) (f:Nat→Rat):Nat→Rat
 |0=>f 0/c
 |i+1=>(f (i+1)-divS c f i)/c
theorem divS_zero {c:Rat} (hc:c≠0) (f:Nat→Rat):c*divS c f 0=f 0:=by unfold divS;grind
theorem divS_succ {c:Rat} (hc:c≠0) (f:Nat→Rat) (i:Nat):c*divS c f (i+1)+divS c f i=f (i+1):=by
 rw [divS];grind
theorem divS_uniq {c:Rat} (hc:c≠0) {f g:Nat→Rat} (h0:c*g 0=f 0) (h: ∀i,c*g (i+1)+g i=f (i+1)): ∀i,g i=divS c f i
 |0=>by have:=divS_zero hc f;grind
 |i+1=>by
  have a:=divS_uniq hc h0 h i
  have b:=divS_succ hc f i
  have d:=h i
  grind
theorem divS_swap {a b:Rat} (ha:a≠0) (hb:b≠0) (f:Nat→Rat) (i:Nat):divS a (divS b f) i=divS b (divS a f) i:=by
 have e:divS a (divS b f)=divS b (divS a f):=by
  funext j
  refine divS_uniq (f:=divS a f) hb ?_ ?_ j
  ·have p:=divS_zero ha (divS b f)
   have q:=divS_zero hb f
   have r:=divS_zero ha f
   grind
  ·intro j
   have: ∀j,divS a f j=b*divS a (divS b f) j+(if j=0 then 0 else divS a (divS b f) (j-1)):=by
    intro j
    refine (divS_uniq (g:=fun j=>b*divS a (divS b f) j+(if j=0 then 0 else divS a (divS b f) (j-1))) (f:=f) ha ?_ ?_ j).symm
    ·have p:=divS_zero ha (divS b f)
     have q:=divS_zero hb f
     grind
    ·intro j
     cases j with
     |zero=>
      have p:=divS_zero ha (divS b f)
      have q:=divS_succ ha (divS b f) 0
      have r:=divS_succ hb f 0
      grind
     |succ j=>
      have q:=divS_succ ha (divS b f) (j+1)
      have q2:=divS_succ ha (divS b f) j
      have r:=divS_succ hb f (j+1)
      grind
   have:=this (j+1)
   grind
 rw [e]
def resS (k:Nat):List Nat→Nat→Rat
 | []=>fun i=>if i=0 then 1 else 0
 |z::zs=>if z=k then resS k zs else divS ((k:Rat)-(z:Rat)) (resS k zs)
theorem natne {a b:Nat} (h:a≠b):(a:Rat)-(b:Rat)≠0:=by
 intro e
 apply h
 have:(a:Rat)=(b:Rat):=by grind
 exact Rat.natCast_inj.1 this
theorem resS_swap (k y z:Nat) (zs:List Nat):resS k (y::z::zs)=resS k (z::y::zs):=by
 funext i
 simp only [resS]
 by_cases hy:y=k
 ·rw [if_pos hy,if_pos hy]
 ·by_cases hz:z=k
  ·rw [if_pos hz,if_pos hz]
  ·rw [if_neg hy,if_neg hz,if_neg hy,if_neg hz]
   exact divS_swap (natne (Ne.symm hy)) (natne (Ne.symm hz)) _ _
theorem resS_perm (k:Nat) {a b:List Nat} (h:a.Perm b):resS k a=resS k b:=by
 induction h with
 |nil=>rfl
 |cons x _ ih=>simp only [resS];rw [ih]
 |swap x y l=>exact resS_swap k y x l
 |trans _ _ i1 i2=>exact i1.trans i2
def alp (zs:List Nat) (k i:Nat):Rat:=if i<zs.count k then resS k zs (zs.count k-1-i) else 0
theorem alp_perm {a b:List Nat} (h:a.Perm b) (k i:Nat):alp a k i=alp b k i:=by
 unfold alp;rw [resS_perm k h,h.count_eq k]
theorem alp_step (z:Nat) (zs:List Nat) (k i:Nat):alp zs k i=((k:Rat)-(z:Rat))*alp (z::zs) k i+alp (z::zs) k (i+1):=by
 unfold alp
 by_cases h:z=k
 ·subst h
  rw [List.count_cons_self]
  simp only [resS,if_true]
  by_cases h1:i<zs.count z
  ·rw [if_pos h1,if_pos (by omega),if_pos (by omega),show zs.count z+1-1-(i+1)=zs.count z-1-i by omega]
   grind
  ·rw [if_neg h1,if_neg (show ¬i+1<zs.count z+1 by omega)]
   grind
 ·rw [List.count_cons_of_ne (by exact h)]
  simp only [resS,if_neg h]
  by_cases h1:i<zs.count k
  ·rw [if_pos h1,if_pos h1]
   have hc:=natne (Ne.symm h)
   by_cases h2:i+1<zs.count k
   ·rw [if_pos h2]
    have e:=divS_succ hc (resS k zs) (zs.count k-1-(i+1))
    rw [show zs.count k-1-(i+1)+1=zs.count k-1-i by omega] at e
    grind
   ·rw [if_neg h2]
    have e:=divS_zero hc (resS k zs)
    rw [show zs.count k-1-i=0 by omega]
    grind
  ·rw [if_neg h1,if_neg h1,if_neg (by omega)]
   grind
theorem sumQ_one (c:Rat) (z:Nat): ∀n,sumQ (fun k=>if k=z then c else 0) n=if z<n then c else 0
 |0=>by simp [sumQ]
 |n+1=>by
  rw [sumQ,sumQ_one c z n]
  by_cases h:n=z
  ·subst h;rw [if_neg (by omega),if_pos rfl,if_pos (by omega)];grind
  ·rw [if_neg h]
   by_cases h2:z<n
   ·rw [if_pos h2,if_pos (by omega)];grind
   ·rw [if_neg h2,if_neg (by omega)];grind
theorem alp_one (z k i:Nat):alp [z] k i=if i=0 then (if k=z then 1 else 0) else 0:=by
 unfold alp
 by_cases h:z=k
 ·subst h
  rw [List.count_cons_self,List.count_nil,if_pos rfl]
  by_cases hi:i=0
  ·subst hi;rw [if_pos (by omega),if_pos rfl];simp [resS]
  ·rw [if_neg (by omega),if_neg hi]
 ·rw [List.count_cons_of_ne h,List.count_nil,if_neg (by omega)]
  split
  ·rw [if_neg (Ne.symm h)]
  ·rfl
theorem alp_nil (k i:Nat):alp [] k i=0:=by unfold alp;simp
theorem resS_rep (z:Nat): ∀n,resS z (List.replicate n z)=resS z []
 |0=>rfl
 |n+1=>by rw [List.replicate_succ];simp only [resS,if_true];exact resS_rep z n
theorem alp_rep (z n k:Nat):alp (List.replicate (n+2) z) k 0=0:=by
 unfold alp
 rw [List.count_replicate]
 by_cases h:(z==k)=true
 ·rw [if_pos h]
  have e:z=k:=by simpa using h
  subst e
  rw [resS_rep]
  simp [resS]
 ·rw [if_neg h];simp
theorem res_sum (m:Nat): ∀(n:Nat) (zs:List Nat),zs.length=n+1→(∀z∈zs,z≤m)→sumQ (fun k=>alp zs k 0) (m+1)=if n=0 then 1 else 0
 |0,zs,hl,hm=>by
  match zs,hl with
  | [z],_=>
    rw [sumQ_congr (g:=fun k=>if k=z then 1 else 0) _ (fun k _=>by rw [alp_one,if_pos rfl]),sumQ_one,if_pos (by have:=hm z (by simp);omega),if_pos rfl]
 |n+1,zs,hl,hm=>by
  match zs,hl with
  |z::t,hl=>
   rw [if_neg (by omega)]
   by_cases hall: ∀y∈t,y=z
   ·have e:z::t=List.replicate (n+2) z:=List.eq_replicate_iff.2 ⟨hl,fun b hb=>by rcases List.mem_cons.1 hb with h|h;exact h;exact hall b h⟩
    rw [e,sumQ_congr (g:=fun _=>0) _ (fun k _=>alp_rep z n k),sumQ_none]
   ·have ⟨y,hy,hne⟩: ∃y,y∈t∧y≠z:=by
     apply Classical.byContradiction
     intro h9
     exact hall (fun y hy=>Classical.byContradiction fun h8=>h9 ⟨y,hy,h8⟩)
    have p:=List.perm_cons_erase hy
    generalize t.erase y=u at p
    have lu:u.length=n:=by have:=p.length_eq;simp at this hl;omega
    have i1:=res_sum m n (y::u) (by simp [lu]) (fun b hb=>hm b (List.mem_cons_of_mem _ (p.mem_iff.2 hb)))
    have i2:=res_sum m n (z::u) (by simp [lu]) (fun b hb=>by
     rcases List.mem_cons.1 hb with h|h
     ·exact hm b (by rw [h];exact List.mem_cons_self ..)
     ·exact hm b (List.mem_cons_of_mem _ (p.mem_iff.2 (List.mem_cons_of_mem _ h))))
    have e1: ∀k,alp (z::t) k 0=alp (z::y::u) k 0:=fun k=>alp_perm (p.cons z) k 0
    have key: ∀k,alp (y::u) k 0+(-1)*alp (z::u) k 0=((y:Rat)-(z:Rat))*alp (z::t) k 0:=fun k=>by
     have a:=alp_step z (y::u) k 0
     have b:=alp_step y (z::u) k 0
     rw [alp_perm (List.Perm.swap z y u) k 0,alp_perm (List.Perm.swap z y u) k 1] at b
     rw [e1 k]
     grind
    have s1:=sumQ_congr (f:=fun k=>alp (y::u) k 0+(-1)*alp (z::u) k 0) (g:=fun k=>((y:Rat)-(z:Rat))*alp (z::t) k 0) (m+1) (fun k _=>key k)
    rw [sumQ_add,sumQ_mul,sumQ_mul,i1,i2] at s1
    have hd:=natne hne
    have:((y:Rat)-(z:Rat))*sumQ (fun k=>alp (z::t) k 0) (m+1)=0:=by rw [←s1];grind
    rcases Rat.mul_eq_zero.1 this with h|h
    ·exact absurd h hd
    ·exact h
def bin (k:Rat):Nat→Nat→Rat
 |0,0=>1
 |0,s+1=>k*bin k 0 s
 |_+1,0=>0
 |i+1,s+1=>k*bin k (i+1) s+bin k i s
theorem bin_zero (k:Rat) (i:Nat):bin k i 0=if i=0 then 1 else 0:=by cases i<;>simp [bin]
theorem bin_succ (k:Rat) (i s:Nat):bin k i (s+1)=k*bin k i s+(if i=0 then 0 else bin k (i-1) s):=by
 cases i with
 |zero=>simp [bin];grind
 |succ i=>simp [bin]
def grs:List Nat→Nat→Rat
 | [],_=>0
 |_::zs,0=>if zs= [] then 1 else 0
 |z::zs,s+1=>(z:Rat)*grs (z::zs) s+grs zs s
def comb (m I:Nat) (zs:List Nat) (s:Nat):Rat:=sumQ (fun k=>sumQ (fun i=>alp zs k i*bin (k:Rat) i s) I) (m+1)
theorem alp_end (zs:List Nat) (k I:Nat) (h:zs.length≤I):alp zs k I=0:=by
 unfold alp
 rw [if_neg (by have:=List.count_le_length (a:=k) (l:=zs);omega)]
theorem comb_row (z:Nat) (zs:List Nat) (k I s:Nat) (hI:zs.length+1≤I):
 sumQ (fun i=>alp (z::zs) k i*bin (k:Rat) i (s+1)) I=(z:Rat)*sumQ (fun i=>alp (z::zs) k i*bin (k:Rat) i s) I+sumQ (fun i=>alp zs k i*bin (k:Rat) i s) I:=by
 have a:sumQ (fun i=>alp zs k i*bin (k:Rat) i s) I=((k:Rat)-(z:Rat))*sumQ (fun i=>alp (z::zs) k i*bin (k:Rat) i s) I+sumQ (fun i=>alp (z::zs) k (i+1)*bin (k:Rat) i s) I:=by
  rw [←sumQ_mul,←sumQ_add]
  refine sumQ_congr _ (fun i _=>?_)
  rw [alp_step z zs k i];grind
 have b:sumQ (fun i=>alp (z::zs) k i*bin (k:Rat) i (s+1)) I=(k:Rat)*sumQ (fun i=>alp (z::zs) k i*bin (k:Rat) i s) I+sumQ (fun i=>alp (z::zs) k i*(if i=0 then 0 else bin (k:Rat) (i-1) s)) I:=by
  rw [←sumQ_mul,←sumQ_add]
  refine sumQ_congr _ (fun i _=>?_)
  rw [bin_succ];grind
 have c:sumQ (fun i=>alp (z::zs) k i*(if i=0 then 0 else bin (k:Rat) (i-1) s)) I=sumQ (fun i=>alp (z::zs) k (i+1)*bin (k:Rat) i s) I:=by
  obtain ⟨J,rfl⟩: ∃J,I=J+1:=⟨I-1,by omega⟩
  rw [sumQ_head,sumQ_succ,alp_end (z::zs) k (J+1) (by simpa using hI)]
  rw [sumQ_congr (g:=fun i=>alp (z::zs) k (i+1)*bin (k:Rat) i s) _ (fun i _=>by rw [if_neg (by omega),Nat.add_sub_cancel])]
  rw [if_pos rfl]
  grind
 rw [b,c,a]
 grind
theorem comb_step (m I z:Nat) (zs:List Nat) (s:Nat) (hI:zs.length+1≤I):comb m I (z::zs) (s+1)=(z:Rat)*comb m I (z::zs) s+comb m I zs s:=by
 unfold comb
 rw [←sumQ_mul,←sumQ_add]
 exact sumQ_congr _ (fun k _=>comb_row z zs k I s hI)
theorem comb_zero (m I z:Nat) (zs:List Nat) (hI:0<I) (hm: ∀y∈z::zs,y≤m):comb m I (z::zs) 0=if zs= [] then 1 else 0:=by
 unfold comb
 have h:=res_sum m zs.length (z::zs) rfl hm
 rw [show (if zs= [] then (1:Rat) else 0)=if zs.length=0 then 1 else 0 by cases zs<;>simp,←h]
 refine sumQ_congr _ (fun k _=>?_)
 obtain ⟨J,rfl⟩: ∃J,I=J+1:=⟨I-1,by omega⟩
 rw [sumQ_head,sumQ_congr (g:=fun _=>0) _ (fun i _=>by rw [bin_zero,if_neg (by omega)];grind),sumQ_none,bin_zero,if_pos rfl]
 grind
theorem comb_grs (m I:Nat): ∀(zs:List Nat),zs.length≤I→(∀z∈zs,z≤m)→ ∀s,comb m I zs s=grs zs s
 | [],_,_,s=>by
   unfold comb grs
   rw [sumQ_congr (g:=fun _=>0) _ (fun k _=>by rw [sumQ_congr (g:=fun _=>0) _ (fun i _=>by rw [alp_nil];grind),sumQ_none]),sumQ_none]
 |z::zs,hI,hm,s=>by
  have ih:=comb_grs m I zs (by simp at hI;omega) (fun y hy=>hm y (List.mem_cons_of_mem _ hy))
  induction s with
  |zero=>rw [comb_zero m I z zs (by simp at hI;omega) hm];rfl
  |succ s ihs=>
   rw [comb_step m I z zs s (by simpa using hI),ihs,ih s];rfl
theorem grs_nonneg: ∀(zs:List Nat) (s:Nat),0≤grs zs s
 | [],_=>by simp [grs]
 |z::zs,0=>by rw [grs];split<;>grind
 |z::zs,s+1=>by
  have a:=grs_nonneg (z::zs) s
  have b:=grs_nonneg zs s
  have c:=Rat.mul_nonneg (Rat.natCast_nonneg (a:=z)) a
  rw [grs];grind
theorem grs_low: ∀(zs:List Nat) (s:Nat),s+1<zs.length→grs zs s=0
 | [],_,h=>by simp at h
 | [_],_,h=>by simp at h
 |z::y::t,0,_=>by rw [grs,if_neg (by simp)]
 |z::y::t,s+1,h=>by
  rw [grs,grs_low (z::y::t) s (by omega),grs_low (y::t) s (by simp at h ⊢;omega)];grind
theorem grs_one: ∀(zs:List Nat) (z:Nat),grs (z::zs) zs.length=1
 | [],z=>by simp [grs]
 |y::t,z=>by
  rw [List.length_cons,grs,grs_low (z::y::t) t.length (by simp),grs_one t y];grind
theorem bin_low (k:Rat): ∀(i s:Nat),s<i→bin k i s=0
 |0,_,h=>by omega
 |_+1,0,_=>by simp only [bin]
 |i+1,s+1,h=>by simp only [bin];rw [bin_low k (i+1) s (by omega),bin_low k i s (by omega)];grind
theorem natle {a b:Nat} (h:a≤b):(a:Rat)≤(b:Rat):=Rat.natCast_le_natCast.2 h
theorem grs_le (m:Nat): ∀(zs:List Nat) (z:Nat) (s:Nat),(∀y∈z::zs,y≤m)→grs (z::zs) s≤bin (m:Rat) zs.length s
 |zs,z,0,h=>by
  rw [grs,bin_zero]
  cases zs with
  |nil=>simp
  |cons y t=>rw [if_neg (by simp),if_neg (by simp)];grind
 |zs,z,s+1,h=>by
  have a:=grs_le m zs z s h
  have hz:(z:Rat)≤(m:Rat):=natle (h z (List.mem_cons_self ..))
  have b1:=Rat.mul_le_mul_of_nonneg_right hz (grs_nonneg (z::zs) s)
  have b2:=Rat.mul_le_mul_of_nonneg_left a (Rat.natCast_nonneg (a:=m))
  rw [grs,bin_succ]
  cases zs with
  |nil=>simp only [grs,List.length_nil,if_true] at *;grind
  |cons y t=>
   have c:=grs_le m t y s (fun x hx=>h x (List.mem_cons_of_mem _ hx))
   rw [if_neg (by simp),List.length_cons,Nat.add_sub_cancel]
   rw [List.length_cons] at b2
   grind
def ep (x:Rat):Nat→Rat
 |0=>1
 |s+1=>ep x s*x/((s+1:Nat):Rat)
theorem nat_ne (s:Nat):((s+1:Nat):Rat)≠0:=fun h=>by
 have:=Rat.natCast_eq_zero_iff.1 h;omega
theorem ep_succ (x:Rat) (s:Nat):((s+1:Nat):Rat)*ep x (s+1)=x*ep x s:=by
 have:=nat_ne s
 rw [ep];grind
theorem nat_pos (s:Nat):(0:Rat)<((s+1:Nat):Rat):=Rat.natCast_pos.2 (by omega)
theorem div_nonneg' {a b:Rat} (ha:0≤a) (hb:0<b):0≤a/b:=Rat.not_lt.1 (fun h=>by
 have:=(Rat.div_lt_iff hb).1 h
 grind)
theorem ep_nonneg (x:Rat) (hx:0≤x): ∀s,0≤ep x s
 |0=>by simp only [ep];grind
 |s+1=>by rw [ep];exact div_nonneg' (Rat.mul_nonneg (ep_nonneg x hx s) hx) (nat_pos s)
theorem cancel_nat (s:Nat) {a b:Rat} (h:((s+1:Nat):Rat)*a=((s+1:Nat):Rat)*b):a=b:=by
 have:=nat_ne s
 grind
theorem cast_succ (s:Nat):((s+1:Nat):Rat)=(s:Rat)+1:=by rw [Rat.natCast_add];rfl
theorem bin_ep (k x:Rat): ∀(n i j:Nat),i+j=n→bin k i n*ep x n=ep x i*ep (k*x) j
 |0,i,j,h=>by
  obtain ⟨rfl,rfl⟩:i=0∧j=0:=by omega
  simp only [bin,ep]
 |n+1,0,j,h=>by
  obtain rfl:j=n+1:=by omega
  have a:=bin_ep k x n 0 n (by omega)
  apply cancel_nat n
  have p:=ep_succ x n
  have q:=ep_succ (k*x) n
  simp only [bin]
  have e0:ep x 0=1:=rfl
  rw [e0] at a ⊢
  grind
 |n+1,i+1,0,h=>by
  obtain rfl:i=n:=by omega
  have a:=bin_ep k x i i 0 (by omega)
  have e0:ep (k*x) 0=1:=rfl
  simp only [bin]
  rw [bin_low k (i+1) i (by omega),e0]
  have p:=ep_succ x i
  have c:bin k i i*ep x i=ep x i:=by rw [a,e0];grind
  apply cancel_nat i
  grind
 |n+1,i+1,j+1,h=>by
  have a:=bin_ep k x n (i+1) j (by omega)
  have b:=bin_ep k x n i (j+1) (by omega)
  have p:=ep_succ x n
  have q:=ep_succ x i
  have r:=ep_succ (k*x) j
  apply cancel_nat n
  simp only [bin]
  have e:((n+1:Nat):Rat)=((i+1:Nat):Rat)+((j+1:Nat):Rat):=by
   rw [←Rat.natCast_add];congr 1;omega
  have s1:((n+1:Nat):Rat)*((k*bin k (i+1) n+bin k i n)*ep x (n+1))=k*x*(bin k (i+1) n*ep x n)+x*(bin k i n*ep x n):=by grind
  rw [s1,a,b,e]
  grind
def EE (x:Rat) (T:Nat):Rat:=sumQ (ep x) T
theorem EE_mono (x:Rat) (hx:0≤x): ∀(a d:Nat),EE x a≤EE x (a+d)
 |a,0=>by grind
 |a,d+1=>by
  have h:=EE_mono x hx a d
  have k:=ep_nonneg x hx (a+d)
  show _≤sumQ (ep x) (a+d+1)
  rw [sumQ_succ]
  unfold EE at h ⊢
  grind
theorem EE_le (x:Rat) (hx:0≤x) {a b:Nat} (h:a≤b):EE x a≤EE x b:=by
 have:=EE_mono x hx a (b-a)
 rwa [show a+(b-a)=b by omega] at this
theorem EE_nonneg (x:Rat) (hx:0≤x) (T:Nat):0≤EE x T:=sumQ_nonneg T (fun i _=>ep_nonneg x hx i)
theorem bin_sum (k x:Rat) (i:Nat): ∀S,sumQ (fun s=>bin k i s*ep x s) S=ep x i*EE (k*x) (S-i)
 |0=>by
  rw [show 0-i=0 by omega];unfold EE;rw [sumQ_zero,sumQ_zero];grind
 |S+1=>by
  rw [sumQ_succ,bin_sum k x i S]
  by_cases h:S<i
  ·rw [bin_low k i S h,show S-i=0 by omega,show S+1-i=0 by omega];grind
  ·rw [bin_ep k x S i (S-i) (by omega),show S+1-i=(S-i)+1 by omega]
   unfold EE
   rw [sumQ_succ];grind
theorem sumQ_mul_right (f:Nat→Rat) (c:Rat) (n:Nat):sumQ f n*c=sumQ (fun i=>f i*c) n:=by
 rw [sumQ_congr (f:=fun i=>f i*c) (g:=fun i=>c*f i) n (fun i _=>by grind),sumQ_mul];grind
theorem id_main (m I:Nat) (zs:List Nat) (hI:zs.length≤I) (hm: ∀z∈zs,z≤m) (x:Rat) (S:Nat):
 sumQ (fun s=>grs zs s*ep x s) S=sumQ (fun k=>sumQ (fun i=>alp zs k i*(ep x i*EE ((k:Rat)*x) (S-i))) I) (m+1):=by
 have a:sumQ (fun s=>grs zs s*ep x s) S=sumQ (fun s=>sumQ (fun k=>sumQ (fun i=>alp zs k i*bin (k:Rat) i s*ep x s) I) (m+1)) S:=by
  refine sumQ_congr _ (fun s _=>?_)
  rw [←comb_grs m I zs hI hm s]
  unfold comb
  rw [sumQ_mul_right]
  exact sumQ_congr _ (fun k _=>sumQ_mul_right _ _ _)
 rw [a,sumQ_swap (fun s k=>sumQ (fun i=>alp zs k i*bin (k:Rat) i s*ep x s) I)]
 refine sumQ_congr _ (fun k _=>?_)
 rw [sumQ_swap (fun s i=>alp zs k i*bin (k:Rat) i s*ep x s)]
 refine sumQ_congr _ (fun i _=>?_)
 rw [←bin_sum,←sumQ_mul]
 exact sumQ_congr _ (fun s _=>by grind)
def cv (f g:Nat→Rat) (T:Nat):Rat:=sumQ (fun i=>f i*sumQ g (T-i)) T
theorem cv_succ (f g:Nat→Rat) (T:Nat):cv f g (T+1)=cv f g T+sumQ (fun i=>f i*g (T-i)) (T+1):=by
 unfold cv
 rw [sumQ_succ,sumQ_succ,Nat.sub_self,show T+1-T=1 by omega]
 have a:sumQ (fun i=>f i*sumQ g (T+1-i)) T=sumQ (fun i=>f i*sumQ g (T-i)+f i*g (T-i)) T:=
  sumQ_congr _ (fun i hi=>by rw [show T+1-i=T-i+1 by omega,sumQ_succ];grind)
 rw [a,sumQ_add]
 have b:sumQ g 1=g 0:=by simp only [sumQ];grind
 rw [b];grind
theorem sumQ_mono {f:Nat→Rat} (hf: ∀i,0≤f i) {a b:Nat} (h:a≤b):sumQ f a≤sumQ f b:=by
 induction b with
 |zero=>rw [show a=0 by omega];grind
 |succ b ih=>
  by_cases e:a=b+1
  ·rw [e];grind
  ·have:=ih (by omega)
   have:=hf b
   rw [sumQ_succ];grind
theorem cv_le {f g:Nat→Rat} (hf: ∀i,0≤f i) (hg: ∀i,0≤g i) (T:Nat):cv f g T≤sumQ f T*sumQ g T:=by
 unfold cv
 rw [sumQ_mul_right]
 exact sumQ_le T (fun i _=>Rat.mul_le_mul_of_nonneg_left (sumQ_mono hg (by omega)) (hf i))
theorem cv_ge {f g:Nat→Rat} (hf: ∀i,0≤f i) (hg: ∀i,0≤g i) (T:Nat):sumQ f T*sumQ g T≤cv f g (T+T):=by
 have a:sumQ (fun i=>f i*sumQ g (T+T-i)) T≤cv f g (T+T):=sumQ_mono (fun i=>Rat.mul_nonneg (hf i) (sumQ_nonneg _ (fun j _=>hg j))) (by omega)
 have b:sumQ f T*sumQ g T≤sumQ (fun i=>f i*sumQ g (T+T-i)) T:=by
  rw [sumQ_mul_right]
  exact sumQ_le T (fun i hi=>Rat.mul_le_mul_of_nonneg_left (sumQ_mono hg (by omega)) (hf i))
 grind
theorem ep_binom (x y:Rat): ∀T,sumQ (fun i=>ep x i*ep y (T-i)) (T+1)=ep (x+y) T
 |0=>by
  show 0+ep x 0*ep y 0=ep (x+y) 0
  simp only [ep];grind
 |T+1=>by
  have ih:=ep_binom x y T
  apply cancel_nat T
  rw [ep_succ (x+y) T,←ih]
  have a:sumQ (fun i=>(i:Rat)*(ep x i*ep y (T+1-i))) (T+1+1)=x*sumQ (fun i=>ep x i*ep y (T-i)) (T+1):=by
   rw [sumQ_head,←sumQ_mul]
   have e0:((0:Nat):Rat)=0:=rfl
   rw [e0,Rat.zero_mul,Rat.zero_add]
   refine sumQ_congr _ (fun i _=>?_)
   have:=ep_succ x i
   rw [show T+1-(i+1)=T-i by omega]
   grind
  have b:sumQ (fun i=>((T+1-i:Nat):Rat)*(ep x i*ep y (T+1-i))) (T+1+1)=y*sumQ (fun i=>ep x i*ep y (T-i)) (T+1):=by
   rw [sumQ_succ,←sumQ_mul,Nat.sub_self]
   have e0:((0:Nat):Rat)=0:=rfl
   rw [e0,Rat.zero_mul,Rat.add_zero]
   refine sumQ_congr _ (fun i hi=>?_)
   have:=ep_succ y (T-i)
   rw [show T+1-i=T-i+1 by omega]
   grind
  have c:((T+1:Nat):Rat)*sumQ (fun i=>ep x i*ep y (T+1-i)) (T+1+1)=sumQ (fun i=>(i:Rat)*(ep x i*ep y (T+1-i))+((T+1-i:Nat):Rat)*(ep x i*ep y (T+1-i))) (T+1+1):=by
   rw [←sumQ_mul]
   refine sumQ_congr _ (fun i hi=>?_)
   have e:((T+1:Nat):Rat)=(i:Rat)+((T+1-i:Nat):Rat):=by rw [←Rat.natCast_add];congr 1;omega
   rw [e];grind
  rw [c,sumQ_add,a,b];grind
theorem cv_ep (x y:Rat): ∀T,cv (ep x) (ep y) T=EE (x+y) T
 |0=>rfl
 |T+1=>by rw [cv_succ,cv_ep x y T,ep_binom];rfl
theorem EE_add_le (x y:Rat) (hx:0≤x) (hy:0≤y) (T:Nat):EE (x+y) T≤EE x T*EE y T:=by
 rw [←cv_ep];exact cv_le (ep_nonneg x hx) (ep_nonneg y hy) T
theorem EE_add_ge (x y:Rat) (hx:0≤x) (hy:0≤y) (T:Nat):EE x T*EE y T≤EE (x+y) (T+T):=by
 rw [←cv_ep];exact cv_ge (ep_nonneg x hx) (ep_nonneg y hy) T
theorem EE_pow_le (x:Rat) (hx:0≤x) (T:Nat) (hT:1≤T): ∀k:Nat,EE ((k:Rat)*x) T≤EE x T^k
 |0=>by
  have e0:((0:Nat):Rat)=0:=rfl
  have: ∀T,EE 0 (T+1)=1:=by
   intro T
   induction T with
   |zero=>unfold EE;simp only [sumQ,ep];grind
   |succ T ih=>
    unfold EE at ih ⊢
    rw [sumQ_succ,ih,ep];grind
  rw [e0,Rat.zero_mul,Rat.pow_zero,show T=T-1+1 by omega,this];grind
 |k+1=>by
  have a:=EE_pow_le x hx T hT k
  have b:=EE_add_le ((k:Rat)*x) x (Rat.mul_nonneg Rat.natCast_nonneg hx) hx T
  have c:=Rat.mul_le_mul_of_nonneg_right a (EE_nonneg x hx T)
  have e:((k+1:Nat):Rat)*x=(k:Rat)*x+x:=by rw [cast_succ];grind
  rw [e,Rat.pow_succ]
  grind
theorem EE_pow_ge (x:Rat) (hx:0≤x): ∀(k T:Nat),∃T',EE x T^k≤EE ((k:Rat)*x) T'
 |0,T=>⟨1,by
  have e0:((0:Nat):Rat)=0:=rfl
  rw [e0,Rat.zero_mul,Rat.pow_zero];unfold EE;simp only [sumQ,ep];grind⟩
 |k+1,T=>by
  obtain ⟨T',h⟩:=EE_pow_ge x hx k T
  have hk:0≤(k:Rat)*x:=Rat.mul_nonneg Rat.natCast_nonneg hx
  have e:((k+1:Nat):Rat)*x=(k:Rat)*x+x:=by rw [cast_succ];grind
  refine ⟨(T'+T)+(T'+T),?_⟩
  have a:=EE_add_ge ((k:Rat)*x) x hk hx (T'+T)
  have b:=EE_le ((k:Rat)*x) hk (show T'≤T'+T by omega)
  have c:=EE_le x hx (show T≤T'+T by omega)
  have d1:EE x T^k≤EE ((k:Rat)*x) (T'+T):=by grind
  have d2:=Rat.mul_le_mul_of_nonneg_right d1 (EE_nonneg x hx T)
  have d3:=Rat.mul_le_mul_of_nonneg_left c (EE_nonneg ((k:Rat)*x) hk (T'+T))
  rw [e,Rat.pow_succ]
  grind
end Go.Ulp
