/- ExpoExps: what the proof leans on, part 2 (Mem). -/
import Derived.WalkKit
import Derived.ProofKit
import Derived.OpenShut
import Derived.WalkLawsBesides
import Derived.Handy
import Derived.Deep.QuietTactic
import Derived.BigQuiet
import Derived.Outline
import Derived.Test.YtehhegbkahnhgaaGreatDoorKExpoExps1
set_option linter.unusedVariables false
set_option linter.unusedSimpArgs false
namespace Go.Ulp
open Go.RowKit
theorem hid {p:Prop} (h:p):Hid p:=h
theorem ret_int {k:IntKind} {a b:Int} (h:a=b):Ending.returned (.int k a)=.returned (.int k b):=by rw [h]
theorem ret_bool {a b:Bool} (h:a=b):Ending.returned (.bool a)=.returned (.bool b):=by rw [h]
theorem and_mask_u64 (a:Int) (k:Nat) (hk:k≤63) (h0:0≤a) (h1:a<18446744073709551616) (m:Int) (hm:m=((2^k-1:Nat):Int)):bits .and .u64 a m=a%((2^k:Nat):Int):=by
 obtain ⟨n,rfl⟩:=Int.eq_ofNat_of_zero_le h0
 have hp:2^k≤2^63:=Nat.pow_le_pow_right (by omega) hk
 subst hm
 rw [u64_and_nat n (2^k-1) (by omega) (by have:(2:Nat)^63=9223372036854775808:=by decide
                                          omega),Nat.and_two_pow_sub_one_eq_mod]
 exact Int.natCast_emod _ _
theorem and_2047 (a:Int) (h0:0≤a) (h1:a<18446744073709551616):bits .and .u64 a 2047=a%2048:=and_mask_u64 a 11 (by omega) h0 h1 2047 (by decide)
theorem and_frac (a:Int) (h0:0≤a) (h1:a<18446744073709551616):bits .and .u64 a 4503599627370495=a%4503599627370496:=and_mask_u64 a 52 (by omega) h0 h1 4503599627370495 (by decide)
theorem and_low32 (a:Int) (h0:0≤a) (h1:a<18446744073709551616):bits .and .u64 a 4294967295=a%4294967296:=and_mask_u64 a 32 (by omega) h0 h1 4294967295 (by decide)
theorem or_join_u64 (a b:Int) (k:Nat) (h0:0≤a) (h1:a<18446744073709551616) (hb0:0≤b) (hb1:b<18446744073709551616)
 (ha:a%((2^k:Nat):Int)=0) (hb:b<((2^k:Nat):Int)):bits .or .u64 a b=a+b:=by
 obtain ⟨n,rfl⟩:=Int.eq_ofNat_of_zero_le h0
 obtain ⟨m,rfl⟩:=Int.eq_ofNat_of_zero_le hb0
 rw [u64_or_nat n m (by omega) (by omega),nat_join k n m (by rw [←Int.natCast_emod] at ha;omega) (by omega)]
 omega
theorem bits_comm_or (a b:Int) (h0:0≤a) (h1:a<18446744073709551616) (hb0:0≤b) (hb1:b<18446744073709551616):bits .or .u64 a b=bits .or .u64 b a:=by
 rw [u64_or a b h0 h1 hb0 hb1,u64_or b a hb0 hb1 h0 h1,Nat.or_comm]
theorem or_join52 (a b:Int) (h0:0≤a) (h1:a<18446744073709551616) (hb0:0≤b) (hb1:b<18446744073709551616)
 (ha:a%4503599627370496=0) (hb:b<4503599627370496):bits .or .u64 a b=a+b:=by
 have p:((2^52:Nat):Int)=4503599627370496:=by decide
 exact or_join_u64 a b 52 h0 h1 hb0 hb1 (by rw [p];exact ha) (by rw [p];exact hb)
theorem or_join_low (a b:Int) (k:Nat) (h0:0≤a) (h1:a<18446744073709551616) (hb0:0≤b) (hb1:b<18446744073709551616)
 (ha:a%((2^k:Nat):Int)=0) (hb:b<((2^k:Nat):Int)):bits .or .u64 b a=b+a:=by
 rw [bits_comm_or b a hb0 hb1 h0 h1,or_join_u64 a b k h0 h1 hb0 hb1 ha hb];omega
theorem or_join32 (a b:Int) (h0:0≤a) (h1:a<4294967296) (hb0:0≤b) (hb:b<4294967296):bits .or .u64 (a*4294967296) b=a*4294967296+b:=by
 have p:((2^32:Nat):Int)=4294967296:=by decide
 exact or_join_u64 _ b 32 (by omega) (by omega) hb0 (by omega) (by rw [p];omega) (by rw [p];exact hb)
theorem or_join32' (a b:Int) (h0:0≤a) (h1:a<4294967296) (hb0:0≤b) (hb:b<4294967296):bits .or .u64 b (a*4294967296)=b+a*4294967296:=by
 have p:((2^32:Nat):Int)=4294967296:=by decide
 exact or_join_low _ b 32 (by omega) (by omega) hb0 (by omega) (by rw [p];omega) (by rw [p];exact hb)
theorem or_sign (a:Int) (h0:0≤a) (h1:a<9223372036854775808):bits .or .u64 a 9223372036854775808=a+9223372036854775808:=by
 rw [bits_comm_or a _ h0 (by omega) (by omega) (by omega),or_join_u64 9223372036854775808 a 63 (by omega) (by omega) h0 (by omega) (by decide) (by exact h1)]
 omega
def twF:Nat→Nat→Nat
 |0,_=>0
 |f+1,n=>if n%2=0 then twF f (n/2)+1 else 0
def tw (n:Nat):Nat:=if n=0 then 0 else twF n n
def od (n:Nat):Nat:=n/2^tw n
theorem twF_spec: ∀f n,0<n→n≤f→ ∃m,n=m*2^twF f n∧m%2=1:=by
 intro f
 induction f with
 |zero=>intro n h0 h1;omega
 |succ f ih=>
  intro n h0 h1
  by_cases h:n%2=0
  ·obtain ⟨m,hm,ho⟩:=ih (n/2) (by omega) (by omega)
   refine ⟨m,?_,ho⟩
   simp only [twF,if_pos h]
   rw [Nat.pow_succ,←Nat.mul_assoc,←hm];omega
  ·exact ⟨n,by simp [twF,if_neg h],by omega⟩
theorem od_tw (n:Nat) (h:0<n):od n*2^tw n=n∧od n%2=1:=by
 obtain ⟨m,hm,ho⟩:=twF_spec n n h (Nat.le_refl _)
 have e:tw n=twF n n:=by unfold tw;rw [if_neg (by omega)]
 have e2:od n=m:=by
  unfold od;rw [e]
  generalize twF n n=t at hm
  subst hm
  exact Nat.mul_div_cancel _ (Nat.two_pow_pos _)
 rw [e2,e];exact ⟨hm.symm,ho⟩
theorem odd_pow_inj {a b i j:Nat} (ha:a%2=1) (hb:b%2=1) (h:a*2^i=b*2^j):i=j∧a=b:=by
 have key: ∀ {a b i j:Nat},a%2=1→i<j→a*2^i=b*2^j→False:=by
  intro a b i j ha hij h
  obtain ⟨k,rfl⟩: ∃k,j=i+(k+1):=⟨j-i-1,by omega⟩
  rw [Nat.pow_add,Nat.mul_comm (2^i),←Nat.mul_assoc] at h
  have:=Nat.eq_of_mul_eq_mul_right (Nat.two_pow_pos i) h
  rw [Nat.pow_succ,←Nat.mul_assoc] at this
  omega
 rcases Nat.lt_trichotomy i j with h1|h1|h1
 ·exact absurd (key ha h1 h) id
 ·subst h1;exact ⟨rfl,Nat.eq_of_mul_eq_mul_right (Nat.two_pow_pos i) h⟩
 ·exact absurd (key hb h1 h.symm) id
theorem tw_od_mul (m k:Nat) (h:m%2=1):tw (m*2^k)=k∧od (m*2^k)=m:=by
 have hp:0<m*2^k:=Nat.mul_pos (by omega) (Nat.two_pow_pos k)
 obtain ⟨h1,h2⟩:=od_tw _ hp
 exact odd_pow_inj h2 h h1
theorem tw_mul (n k:Nat) (h:0<n):tw (n*2^k)=tw n+k∧od (n*2^k)=od n:=by
 obtain ⟨h1,h2⟩:=od_tw n h
 have:=tw_od_mul (od n) (tw n+k) h2
 rw [Nat.pow_add,←Nat.mul_assoc,h1] at this
 exact this
theorem od_pos (n:Nat) (h:0<n):0<od n:=by have:=(od_tw n h).2;omega
theorem od_le (n:Nat):od n≤n:=Nat.div_le_self _ _
def pw (n:Nat):Int:=((2^n:Nat):Int)
theorem pw_nat (n:Nat):pw n=((2^n:Nat):Int):=rfl
theorem pw_abs (n:Nat):(pw n).natAbs=2^n:=Int.natAbs_natCast _
theorem pw_pos (n:Nat):0<pw n:=by unfold pw;have:=Nat.two_pow_pos n;omega
theorem pw_add (m n:Nat):pw (m+n)=pw m*pw n:=by unfold pw;rw [Nat.pow_add,Int.natCast_mul]
theorem pw_zero:pw 0=1:=rfl
theorem pw_inj {a b:Int} (k:Nat) (h:a*pw k=b*pw k):a=b:=Int.eq_of_mul_eq_mul_right (by have:=pw_pos k;omega) h
theorem pw_lt {a b:Int} (k:Nat):a*pw k<b*pw k↔a<b:=⟨fun h=>Int.lt_of_mul_lt_mul_right h (Int.le_of_lt (pw_pos k)),fun h=>Int.mul_lt_mul_of_pos_right h (pw_pos k)⟩
def cmpI (a b:Int):Int:=if a<b then -1 else if b<a then 1 else 0
theorem cmpI_pw (a b:Int) (k:Nat):cmpI (a*pw k) (b*pw k)=cmpI a b:=by
 unfold cmpI;simp only [pw_lt]
abbrev Dy:=Int×Int
def nrm (x e:Int):Dy:=if x=0 then (0,0) else (x/pw (tw x.natAbs),e+tw x.natAbs)
theorem nrm_zero (e:Int):nrm 0 e=(0,0):=rfl
theorem div_pw_tw (x:Int):x/pw (tw x.natAbs)*pw (tw x.natAbs)=x:=by
 by_cases h:x=0
 ·subst h;rfl
 ·have h1:=(od_tw x.natAbs (by omega)).1
  have h2:(x.natAbs:Int)=(od x.natAbs:Int)*pw (tw x.natAbs):=by rw [pw_nat,←Int.natCast_mul,h1]
  have hp:=pw_pos (tw x.natAbs)
  rcases Int.le_total 0 x with hx|hx
  ·have e:x=(od x.natAbs:Int)*pw (tw x.natAbs):=by omega
   conv=>lhs;lhs;lhs;rw [e]
   rw [Int.mul_ediv_cancel _ (by omega)];exact e.symm
  ·have e:x= -(od x.natAbs:Int)*pw (tw x.natAbs):=by rw [Int.neg_mul];omega
   conv=>lhs;lhs;lhs;rw [e]
   rw [Int.mul_ediv_cancel _ (by omega)];exact e.symm
theorem natAbs_mul_pw (x:Int) (k:Nat):(x*pw k).natAbs=x.natAbs*2^k:=by rw [Int.natAbs_mul,pw_abs]
theorem nrm_abs (x e:Int) (h:x≠0):(nrm x e).1.natAbs=od x.natAbs:=by
 unfold nrm;rw [if_neg h]
 have h1:=div_pw_tw x
 have h2:=congrArg Int.natAbs h1
 rw [natAbs_mul_pw] at h2
 have h3:=(od_tw x.natAbs (by omega)).1
 exact Nat.eq_of_mul_eq_mul_right (Nat.two_pow_pos _) (h2.trans h3.symm)
theorem nrm_scale (x e:Int) (k:Nat):nrm (x*pw k) e=nrm x (e+k):=by
 unfold nrm
 by_cases h:x=0
 ·subst h;simp
 ·have hp:=pw_pos k
  have h0:x*pw k≠0:=by intro e;rcases Int.mul_eq_zero.1 e with e|e<;>omega
  rw [if_neg h,if_neg h0,natAbs_mul_pw,(tw_mul x.natAbs k (by omega)).1]
  refine Prod.ext ?_ (by simp only;omega)
  simp only
  rw [pw_add,Int.mul_comm (pw (tw x.natAbs)),Int.mul_comm x,Int.mul_ediv_mul_of_pos _ _ hp]
theorem nrm_rep (x e:Int): ∃k:Nat,x=(nrm x e).1*pw k∧(x≠0→(nrm x e).2=e+k):=by
 by_cases h:x=0
 ·subst h;exact ⟨0,rfl,fun h=>absurd rfl h⟩
 ·refine ⟨tw x.natAbs,?_,fun _=>?_⟩
  ·unfold nrm;rw [if_neg h];exact (div_pw_tw x).symm
  ·unfold nrm;rw [if_neg h]
theorem nrm_odd (x e:Int) (h:x≠0):(nrm x e).1.natAbs%2=1:=by rw [nrm_abs x e h];exact (od_tw _ (by omega)).2
theorem nrm_zero_iff (x e:Int):(nrm x e).1=0↔x=0:=by
 obtain ⟨k,h1,_⟩:=nrm_rep x e
 constructor
 ·intro h;rw [h,Int.zero_mul] at h1;exact h1
 ·intro h;subst h;rfl
def IsN (D:Dy):Prop:=(D.1=0∧D.2=0)∨D.1.natAbs%2=1
theorem nrm_isN (x e:Int):IsN (nrm x e):=by
 by_cases h:x=0
 ·subst h;exact .inl ⟨rfl,rfl⟩
 ·exact .inr (nrm_odd x e h)
theorem nrm_of_isN (D:Dy) (h:IsN D):nrm D.1 D.2=D:=by
 obtain ⟨x,e⟩:=D
 rcases h with ⟨h1,h2⟩|h
 ·simp only at h1 h2;subst h1;subst h2;rfl
 ·simp only at h
  have hx:x≠0:=by intro e;subst e;simp at h
  have ht:=(tw_od_mul x.natAbs 0 h).1
  rw [Nat.pow_zero,Nat.mul_one] at ht
  unfold nrm;rw [if_neg hx,ht,pw_zero,Int.ediv_one];simp
def sc (x e g:Int):Int:=x*pw (e-g).toNat
theorem sc_zero (e g:Int):sc 0 e g=0:=by unfold sc;exact Int.zero_mul _
theorem sc_down (x e g h:Int) (h1:g≤e∨x=0) (h2:h≤g):sc x e h=sc x e g*pw (g-h).toNat:=by
 rcases h1 with h1|h1
 ·unfold sc;rw [Int.mul_assoc,←pw_add];congr 2;omega
 ·subst h1;rw [sc_zero,sc_zero,Int.zero_mul]
theorem sc_nrm (x e g:Int) (h:g≤e∨x=0):sc x e g=sc (nrm x e).1 (nrm x e).2 g∧(g≤(nrm x e).2∨(nrm x e).1=0):=by
 by_cases hx:x=0
 ·subst hx;rw [nrm_zero,sc_zero,sc_zero];exact ⟨rfl,.inr rfl⟩
 ·obtain ⟨k,h1,h2⟩:=nrm_rep x e
  have h2:=h2 hx
  have h3:g≤e:=by omega
  refine ⟨?_,.inl (by omega)⟩
  unfold sc
  conv=>lhs;rw [h1]
  rw [Int.mul_assoc,←pw_add];congr 2;omega
theorem sc_self (x e:Int):sc x e e=x:=by unfold sc;simp [pw_zero]
def addD (D E:Dy):Dy:=nrm (sc D.1 D.2 (min D.2 E.2)+sc E.1 E.2 (min D.2 E.2)) (min D.2 E.2)
def negD (D:Dy):Dy:=(-D.1,D.2)
def absD (D:Dy):Dy:=((D.1.natAbs:Int),D.2)
def shD (D:Dy) (n:Int):Dy:=nrm D.1 (D.2+n)
def cmpD (D E:Dy):Int:=cmpI (sc D.1 D.2 (min D.2 E.2)) (sc E.1 E.2 (min D.2 E.2))
def sgn (x:Int):Int:=cmpI x 0
theorem nrm_level (x e y f g h:Int) (h1:g≤e∨x=0) (h2:g≤f∨y=0) (h3:h≤g):
 nrm (sc x e h+sc y f h) h=nrm (sc x e g+sc y f g) g:=by
 rw [sc_down x e g h h1 h3,sc_down y f g h h2 h3,←Int.add_mul,nrm_scale];congr 1;omega
theorem cmp_level (x e y f g h:Int) (h1:g≤e∨x=0) (h2:g≤f∨y=0) (h3:h≤g):
 cmpI (sc x e h) (sc y f h)=cmpI (sc x e g) (sc y f g):=by
 rw [sc_down x e g h h1 h3,sc_down y f g h h2 h3,cmpI_pw]
theorem nrm_add (x e y f g:Int) (h1:g≤e∨x=0) (h2:g≤f∨y=0):nrm (sc x e g+sc y f g) g=addD (nrm x e) (nrm y f):=by
 obtain ⟨a1,a2⟩:=sc_nrm x e g h1
 obtain ⟨b1,b2⟩:=sc_nrm y f g h2
 rw [a1,b1]
 unfold addD
 have m1:min (nrm x e).2 (nrm y f).2≤(nrm x e).2:=by omega
 have m2:min (nrm x e).2 (nrm y f).2≤(nrm y f).2:=by omega
 generalize min (nrm x e).2 (nrm y f).2=m at *
 rw [←nrm_level _ _ _ _ g (min g m) a2 b2 (by omega),←nrm_level _ _ _ _ m (min g m) (.inl m1) (.inl m2) (by omega)]
theorem cmp_nrm (x e y f g:Int) (h1:g≤e∨x=0) (h2:g≤f∨y=0):cmpI (sc x e g) (sc y f g)=cmpD (nrm x e) (nrm y f):=by
 obtain ⟨a1,a2⟩:=sc_nrm x e g h1
 obtain ⟨b1,b2⟩:=sc_nrm y f g h2
 rw [a1,b1]
 unfold cmpD
 have m1:min (nrm x e).2 (nrm y f).2≤(nrm x e).2:=by omega
 have m2:min (nrm x e).2 (nrm y f).2≤(nrm y f).2:=by omega
 generalize min (nrm x e).2 (nrm y f).2=m at *
 rw [←cmp_level _ _ _ _ g (min g m) a2 b2 (by omega),←cmp_level _ _ _ _ m (min g m) (.inl m1) (.inl m2) (by omega)]
theorem nrm_neg (x e:Int):nrm (-x) e=negD (nrm x e):=by
 unfold negD nrm
 by_cases h:x=0
 ·subst h;simp
 ·rw [if_neg h,if_neg (by omega),Int.natAbs_neg]
  refine Prod.ext ?_ rfl
  simp only
  have h1:=div_pw_tw x
  have h2:=div_pw_tw (-x)
  rw [Int.natAbs_neg] at h2
  exact pw_inj (tw x.natAbs) (by rw [h2,Int.neg_mul,h1])
theorem nrm_natAbs (x e:Int):nrm (x.natAbs:Int) e=absD (nrm x e):=by
 unfold absD
 rcases Int.le_total 0 x with h|h
 ·rw [show (x.natAbs:Int)=x by omega]
  refine Prod.ext ?_ rfl
  simp only
  have:0≤(nrm x e).1:=by
   unfold nrm;split
   ·simp
   ·exact Int.ediv_nonneg h (Int.le_of_lt (pw_pos _))
  omega
 ·rw [show (x.natAbs:Int)= -x by omega,nrm_neg]
  unfold negD
  refine Prod.ext ?_ rfl
  simp only
  have h3:nrm x e=negD (nrm (-x) e):=by rw [←nrm_neg,Int.neg_neg]
  have:0≤(nrm (-x) e).1:=by
   unfold nrm;split
   ·simp
   ·exact Int.ediv_nonneg (by omega) (Int.le_of_lt (pw_pos _))
  rw [h3];unfold negD;simp only;omega
theorem nrm_shift (x e n:Int):nrm x (e+n)=shD (nrm x e) n:=by
 unfold shD
 by_cases hx:x=0
 ·subst hx;rw [nrm_zero,nrm_zero,nrm_zero]
 obtain ⟨k,a1,a2⟩:=nrm_rep x e
 rw [a2 hx]
 conv=>lhs;rw [a1,nrm_scale]
 congr 1;omega
theorem sgn_pw (a:Int) (k:Nat):sgn (a*pw k)=sgn a:=by have:=cmpI_pw a 0 k;rwa [Int.zero_mul] at this
theorem sgn_nrm (x e:Int):sgn (nrm x e).1=sgn x:=by
 obtain ⟨k,h1,_⟩:=nrm_rep x e
 conv=>rhs;rw [h1]
 rw [sgn_pw]
theorem cmpD_zero (D:Dy):cmpD D (0,0)=sgn D.1:=by
 unfold cmpD
 simp only [sc_zero]
 unfold sc;exact sgn_pw _ _
theorem cmpI_eq_zero (a b:Int):cmpI a b=0↔a=b:=by unfold cmpI;split<;>(try split)<;>omega
def sg (neg:Bool) (x:Int):Int:=if neg then -x else x
theorem sg_abs (neg:Bool) (x:Int):(sg neg x).natAbs=x.natAbs:=by unfold sg;cases neg<;>simp
def rvi (n:Nat):Nat:=if n<4503599627370496 then n else (n%4503599627370496+4503599627370496)*2^(n/4503599627370496-1)
theorem rvi_succ (n:Nat):rvi (n+1)=rvi n+2^(n/4503599627370496-1):=by
 unfold rvi
 by_cases h:n+1<4503599627370496
 ·rw [if_pos h,if_pos (by omega),show n/4503599627370496-1=0 by omega]
 ·rw [if_neg h]
  by_cases h2:n<4503599627370496
  ·have:n=4503599627370495:=by omega
   subst this;decide
  ·rw [if_neg h2]
   obtain ⟨e,he⟩: ∃e,e=n/4503599627370496-1:=⟨_,rfl⟩
   rw [←he]
   by_cases h3:n%4503599627370496=4503599627370495
   ·rw [show (n+1)/4503599627370496-1=e+1 by omega,show (n+1)%4503599627370496=0 by omega,h3,Nat.pow_succ];omega
   ·rw [show (n+1)/4503599627370496-1=e by omega,show (n+1)%4503599627370496=n%4503599627370496+1 by omega]
    simp only [Nat.add_mul];omega
theorem rvi_lt_succ (n:Nat):rvi n<rvi (n+1):=by rw [rvi_succ];have:=Nat.two_pow_pos (n/4503599627370496-1);omega
theorem rvi_mono {m n:Nat} (h:m<n):rvi m<rvi n:=by
 induction n with
 |zero=>omega
 |succ n ih=>
  have h1:=rvi_lt_succ n
  by_cases e:m=n
  ·rw [e];exact h1
  ·have:=ih (by omega);omega
theorem rvi_zero:rvi 0=0:=rfl
def rvs (r:Int):Int:=if r<0 then -(rvi r.natAbs:Int) else (rvi r.natAbs:Int)
theorem rvs_mono {r s:Int} (h:r<s):rvs r<rvs s:=by
 unfold rvs
 by_cases hr:r<0<;>by_cases hs:s<0
 ·rw [if_pos hr,if_pos hs];have:= @rvi_mono s.natAbs r.natAbs (by omega);omega
 ·rw [if_pos hr,if_neg hs];have:= @rvi_mono 0 r.natAbs (by omega);rw [rvi_zero] at this;omega
 ·omega
 ·rw [if_neg hr,if_neg hs];have:= @rvi_mono r.natAbs s.natAbs (by omega);omega
theorem rvs_cmp (r s:Int):cmpI (rvs r) (rvs s)=cmpI r s:=by
 unfold cmpI
 rcases Int.lt_trichotomy r s with h|h|h
 ·have:=rvs_mono h;rw [if_pos this,if_pos h]
 ·subst h;simp
 ·have:=rvs_mono h;rw [if_neg (by omega),if_pos this,if_neg (by omega),if_pos h]
theorem rvs_zero:rvs 0=0:=rfl
theorem rvs_neg (r:Int):rvs (-r)= -rvs r:=by
 unfold rvs
 rw [Int.natAbs_neg]
 rcases Int.lt_trichotomy r 0 with h|h|h
 ·rw [if_neg (by omega),if_pos h,Int.neg_neg]
 ·subst h;rfl
 ·rw [if_pos (by omega),if_neg (by omega)]
def lb (L:List Nat) (i:Nat):Int:=((L.getD i 0:Nat):Int)
theorem lb_nonneg (L:List Nat) (i:Nat):0≤lb L i:=by unfold lb;omega
def limbs (n:Nat):List Nat:=digs 4294967296 n
def lval (L:List Nat):Nat:=val 4294967296 L
def Lim (L:List Nat):Prop:=AllLt 4294967296 L
def decs (n:Nat):List Nat:=digs 10000 n
def dval (L:List Nat):Nat:=val 10000 L
def Dec (L:List Nat):Prop:=AllLt 10000 L
theorem limbs_cut (L:List Nat) (h:Lim L) (k:Nat) (hz: ∀d∈L.drop k,d=0) (ht:Trim (L.take k)):limbs (lval L)=L.take k:=
 digs_cut 4294967296 (by omega) L h k hz ht
theorem limbs_lim (n:Nat):Lim (limbs n):=digs_lt _ (by omega) n
theorem lval_limbs (n:Nat):lval (limbs n)=n:=val_digs _ (by omega) n
theorem limbs_trim (n:Nat):Trim (limbs n):=digs_trim _ (by omega) n
theorem limbs_nil (n:Nat):limbs n= []↔n=0:=digs_eq_nil _ (by omega) n
theorem limbs_zero:limbs 0= []:=rfl
theorem decs_cut (L:List Nat) (h:Dec L) (k:Nat) (hz: ∀d∈L.drop k,d=0) (ht:Trim (L.take k)):decs (dval L)=L.take k:=
 digs_cut 10000 (by omega) L h k hz ht
theorem decs_lim (n:Nat):Dec (decs n):=digs_lt _ (by omega) n
theorem dval_decs (n:Nat):dval (decs n)=n:=val_digs _ (by omega) n
theorem decs_trim (n:Nat):Trim (decs n):=digs_trim _ (by omega) n
theorem decs_nil (n:Nat):decs n= []↔n=0:=digs_eq_nil _ (by omega) n
theorem drop_zero_succ (L:List Nat) (m:Nat) (hm:m<L.length) (h:L.getD m 0=0) (hz: ∀d∈L.drop (m+1),d=0): ∀d∈L.drop m,d=0:=by
 intro d hd
 rw [drop_getD L m hm] at hd
 rcases List.mem_cons.1 hd with e|e
 ·rw [e];exact h
 ·exact hz d e
def Ns (k:IntKind) (w:World) (ao:Option Addr) (cap:Nat) (L:List Nat):Prop:=
 L.length≤cap∧cap≤maxLen∧(0<L.length→ ∃b off,ao=some ⟨b,off,none⟩∧ ∀i,i<L.length→w.cell? ⟨b,off+i,none⟩=some (.int k (lb L i)))
theorem Ns.nil {k:IntKind} {w:World}:Ns k w none 0 []:=⟨Nat.le_refl _,Nat.zero_le _,fun h=>by simp at h⟩
theorem Ns.nil' {k:IntKind} {w:World} (ao:Option Addr) (cap:Nat) (h:cap≤maxLen):Ns k w ao cap []:=⟨Nat.zero_le _,h,fun h=>by simp at h⟩
theorem Ns.below {k:IntKind} {w w':World} {ao:Option Addr} {cap:Nat} {L:List Nat} (h:Ns k w ao cap L) (hb:Below w.heap.size w w'):Ns k w' ao cap L:=by
 obtain ⟨h1,h2,h3⟩:=h
 refine ⟨h1,h2,fun hp=>?_⟩
 obtain ⟨b,off,e,hc⟩:=h3 hp
 refine ⟨b,off,e,fun i hi=>?_⟩
 have hlt:=World.block_lt_of_cell? w _ (hc i hi)
 rw [hb.cell hlt];exact hc i hi
theorem Ns.drewN {k:IntKind} {w:World} {ao:Option Addr} {cap:Nat} {L:List Nat} (h:Ns k w ao cap L):Ns k w.drew ao cap L:=
 h.below ((Below.refl _ _).drew)
theorem Ns.take {k:IntKind} {w:World} {ao:Option Addr} {cap:Nat} {L:List Nat} (h:Ns k w ao cap L) (n c:Nat) (hn:n≤L.length) (hc:n≤c) (hcc:c≤cap):Ns k w ao c (L.take n):=by
 obtain ⟨h1,h2,h3⟩:=h
 have e:(L.take n).length=n:=by rw [List.length_take];omega
 refine ⟨by omega,by omega,fun hp=>?_⟩
 obtain ⟨b,off,ea,hcl⟩:=h3 (by omega)
 refine ⟨b,off,ea,fun i hi=>?_⟩
 rw [hcl i (by omega)]
 have:lb (L.take n) i=lb L i:=by
  unfold lb;rw [getD_in _ _ hi,getD_in _ _ (show i<L.length by omega),List.getElem_take]
 rw [this]
theorem limbs_len_le (L:List Nat) (hl:Lim L):(limbs (lval L)).length≤L.length:=
 (digs_len_le _ (by omega) _ _).2 (val_lt _ L hl)
theorem decs_len_le (L:List Nat) (hl:Dec L):(decs (dval L)).length≤L.length:=
 (digs_len_le _ (by omega) _ _).2 (val_lt _ L hl)
theorem cut_ex (L:List Nat): ∃k,k≤L.length∧(∀d∈L.drop k,d=0)∧Trim (L.take k):=by
 have: ∀j,j≤L.length→(∀d∈L.drop j,d=0)→ ∃k,k≤L.length∧(∀d∈L.drop k,d=0)∧Trim (L.take k):=by
  intro j
  induction j with
  |zero=>intro _ hz;exact ⟨0,by omega,hz,fun h=>by simp at h⟩
  |succ j ih=>
   intro hj hz
   by_cases h:L.getD j 0=0
   ·exact ih (by omega) (drop_zero_succ L j (by omega) h hz)
   ·exact ⟨j+1,hj,hz,trim_take L j (by omega) h⟩
 exact this L.length (Nat.le_refl _) (by simp)
theorem limbs_take (L:List Nat) (hl:Lim L):limbs (lval L)=L.take (limbs (lval L)).length:=by
 obtain ⟨k,hk,hz,ht⟩:=cut_ex L
 rw [limbs_cut L hl k hz ht,List.length_take,Nat.min_eq_left hk]
theorem Ns.norm {k:IntKind} {w:World} {ao:Option Addr} {cap:Nat} {L:List Nat} (h:Ns k w ao cap L) (hl:Lim L):Ns k w ao (limbs (lval L)).length (limbs (lval L)):=by
 have h1:=limbs_len_le L hl
 have h2:=h.take (limbs (lval L)).length (limbs (lval L)).length h1 (Nat.le_refl _) (Nat.le_trans h1 h.1)
 rwa [←limbs_take L hl] at h2
theorem own_ns {k:IntKind} {w:World} {base:Nat} {e:TypeId} {v:Value} {n:Nat} {L:List Nat} (h:w.ownsRow base e 1 v n (L.map fun d:Nat=>Value.int k d)):
 ∃ao cap,v=.slice ao L.length cap∧Ns k w ao cap L:=by
 obtain ⟨h1,h2⟩:=h
 have hn:n=L.length:=by simpa using h1.symm
 rcases h2 with ⟨rfl,h0⟩|⟨g,cap,cur,rfl,hg,hh,hc,hm,hs,ht⟩
 ·have:L= []:=List.length_eq_zero_iff.1 (by omega)
  subst this
  exact ⟨none,0,rfl,Ns.nil⟩
 ·subst hn
  refine ⟨_,cap,rfl,hc,hm,fun hp=>⟨g,0,rfl,fun i hi=>?_⟩⟩
  have hl:(L.map fun d:Nat=>Value.int k d)[i]? =some (.int k (lb L i)):=by
   rw [List.getElem?_map,List.getElem?_eq_getElem hi]
   unfold lb;rw [getD_in _ _ hi];rfl
  rw [←ht] at hl
  rw [List.getElem?_take] at hl
  split at hl
  ·simp only [World.cell?,hh]
   simpa using hl
  ·simp at hl
def RetN (w:World) (n:Nat) (e:Ending) (w':World):Prop:=
 ∃ao,e=.returned (.slice ao (limbs n).length (limbs n).length)∧Ns .u32 w' ao (limbs n).length (limbs n)∧Below w.heap.size w w'
theorem bcell {W w1:World} (hb:Below W.heap.size W w1):(∀b o,b<W.heap.size→w1.cell? ⟨b,o,none⟩=W.cell? ⟨b,o,none⟩)∧(∀b o,b<W.heap.size→w1.frozen? ⟨b,o,none⟩=W.frozen? ⟨b,o,none⟩):=
 ⟨fun b o h=>hb.cell (p:=⟨b,o,none⟩) h,fun b o h=>hb.frozen (p:=⟨b,o,none⟩) h⟩
theorem below_trans {a b c:World} (h:Below a.heap.size a b) (k:Below b.heap.size b c):Below a.heap.size a c:=h.trans (k.mono h.size)
theorem below_alloc (w:World) (o:Obj):Below w.heap.size w (w.alloc o):=(Below.refl _ _).alloc (Nat.le_refl _) o
theorem lval_lt (L:List Nat) (h:Lim L):lval L<4294967296^L.length:=val_lt _ L h
theorem lval_lt_of_len (L M:List Nat) (hL:Lim L) (tM:Trim M) (h:L.length<M.length):lval L<lval M:=val_lt_of_len _ (by omega) L M hL tM h
theorem lval_lt_of_top (L M:List Nat) (k:Nat) (hL:Lim L) (hlen:L.length=M.length) (hk:k<L.length) (heq:L.drop (k+1)=M.drop (k+1)) (h:lb L k<lb M k):lval L<lval M:=
 val_lt_of_top _ L M k hL hlen hk heq (by unfold lb at h;omega)
theorem limbs_cmp_len (m n:Nat) (h:(limbs m).length<(limbs n).length):m<n:=by
 have:=lval_lt_of_len _ _ (limbs_lim m) (limbs_trim n) h;rwa [lval_limbs,lval_limbs] at this
theorem limbs_cmp_top (m n k:Nat) (hlen:(limbs m).length=(limbs n).length) (hk:k<(limbs m).length) (heq:(limbs m).drop (k+1)=(limbs n).drop (k+1)) (h:lb (limbs m) k<lb (limbs n) k):m<n:=by
 have:=lval_lt_of_top _ _ k (limbs_lim m) hlen hk heq h;rwa [lval_limbs,lval_limbs] at this
theorem limbs_cmp_eq (m n:Nat) (heq:(limbs m).drop 0=(limbs n).drop 0):m=n:=by
 simp only [List.drop_zero] at heq
 rw [←lval_limbs m,heq,lval_limbs]
theorem drop_eq_step (L M:List Nat) (k:Nat) (h0:k<L.length) (h1:k<M.length) (h:L.drop (k+1)=M.drop (k+1)) (e:lb L k=lb M k):L.drop k=M.drop k:=by
 rw [drop_getD L k h0,drop_getD M k h1,h];unfold lb at e
 rw [show L.getD k 0=M.getD k 0 by omega]
theorem quiet_add_left {P:Program} {f:FuncId} {args:Array Value} {w:World} {a n:Nat} {v:Value}
 (h:Calls P f args (w.drewN (a+n)) fun e w'=>e=.returned v∧w.drewN (a+n)=w'):
 Calls P f args (w.drewN (a+n)) fun e w''=>e=.returned v∧ ∃m,w''=w.drewN (a+m):=
 h.mono fun _ _ ⟨he,hm⟩=>⟨he,n,hm.symm⟩
theorem quiet_left {P:Program} {f:FuncId} {args:Array Value} {w:World} {n:Nat} {v:Value}
 (h:Calls P f args (w.drewN n) fun e w'=>e=.returned v∧w.drewN n=w'):Calls P f args (w.drewN n) fun e w''=>e=.returned v∧ ∃m,w''=w.drewN m:=
 h.mono fun _ _ ⟨he,hm⟩=>⟨he,n,hm.symm⟩
theorem below_drewN {B:Nat} {a w:World} (h:Below B a w) (n:Nat):Below B a (w.drewN n):=⟨h.os,h.tape,h.output,h.size,h.block⟩
theorem below_al {w w':World} (h:Below w.heap.size w w') (o:Obj):Below w.heap.size w (w'.alloc o):=h.alloc h.size o
theorem bR (B:Nat) (w:World):Below B w w:=Below.refl B w
theorem bA {w w':World} (h:Below w.heap.size w w') (o:Obj):Below w.heap.size w (w'.alloc o):=below_al h o
theorem bN {B:Nat} {a w:World} (h:Below B a w) (n:Nat):Below B a (w.drewN n):=below_drewN h n
theorem bD {B:Nat} {a w:World} (h:Below B a w):Below B a w.drew:=h.drew
theorem bL {B:Nat} {a w:World} (h:Below B a w) (hB:B≤w.heap.size) (o:Obj):Below B a (w.alloc o):=h.alloc hB o
theorem bS {B:Nat} {a w:World} (h:Below B a w) {p:Addr} (hp:B≤p.block) (u:Value):Below B a (w.setCell p u):=h.setCell hp u
theorem bT {a b c:World} (h:Below a.heap.size a b) (k:Below b.heap.size b c):Below a.heap.size a c:=below_trans h k
def ElemInfo (P:Program) (t e:TypeId) (k:IntKind) (bytes:Nat):Prop:=
 P.underlying t=some (.slice e)∧ ∃i,P.info? e=some i∧i.zero=some (.int k 0)∧i.size=1∧i.bytes=bytes
theorem ElemInfo.mk {P:Program} {t e:TypeId} {k:IntKind} {bytes:Nat} (h:P.underlying t=some (.slice e)) (hi:(P.info? e).map (fun i=>(i.zero,i.size,i.bytes))=some (some (.int k 0),1,bytes)):ElemInfo P t e k bytes:=by
 obtain ⟨i0,h0,h1,h2,h3⟩:=info_parts hi
 exact ⟨h,i0,h0,h1,h2,h3⟩
theorem cell_push (w:World) (k:IntKind) (n:Int) (d:Nat) (e:TypeId) (h:n=(d:Int)):(w.alloc (.cells #[.int k n] e)).cell? ⟨w.heap.size,0,none⟩=some (.int k (d:Int)):=by
 rw [World.cell?_alloc_at (hn:=rfl)];simp [h]
def nums (k:IntKind) (L:List Nat):List Value:=L.map fun d:Nat=>Value.int k (d:Int)
theorem nums_len (k:IntKind) (L:List Nat):(nums k L).length=L.length:=by simp [nums]
def Own (base:Nat) (e:TypeId) (k:IntKind) (w:World) (v:Value) (L:List Nat):Prop:=w.ownsRow base e 1 v L.length (nums k L)
theorem Own.nil {base:Nat} {e:TypeId} {k:IntKind} {w:World}:Own base e k w (.slice none 0 0) []:=World.ownsRow_nil _ _ _ _
theorem Own.alloc {base:Nat} {e:TypeId} {k:IntKind} {w:World} {v:Value} {L:List Nat} (h:Own base e k w v L) (o:Obj):Own base e k (w.alloc o) v L:=World.ownsRow.alloc h o
theorem Own.ns {base:Nat} {e:TypeId} {k:IntKind} {w:World} {v:Value} {L:List Nat} (h:Own base e k w v L): ∃ao cap,v=.slice ao L.length cap∧Ns k w ao cap L:=own_ns h
theorem Own.kept {base:Nat} {e:TypeId} {k:IntKind} {w w':World} {v:Value} {L:List Nat} (h:Own base e k w v L) (hb:Below w.heap.size w w'):Own base e k w' v L:=by
 obtain ⟨h1,h2⟩:=h
 refine ⟨h1,?_⟩
 rcases h2 with hn|⟨g,cap,cur,rfl,hg,hh,rest⟩
 ·exact .inl hn
 ·refine .inr ⟨g,cap,cur,rfl,hg,?_,rest⟩
  rw [hb.block g (Array.getElem?_eq_some_iff.1 hh).1];exact hh
section
variable {P:Program} {w:World}
theorem wpList_push {ops:Array Oper} {rest:List Oper} {o:Oper} {a:Act} {Q:Exit→Act→World→Prop} {t e:TypeId} {k:IntKind} {bytes:Nat} (he:ElemInfo P t e k bytes) (hby:bytes≤8) (hgd:o.guard=none) (s x:Operand)
 (ho:o.op=.call {callee:=.builtin .append,args:= #[s,x],argTypes:= #[t,t]})
 (base:Nat) (L:List Nat) (d:Nat) (v:Value) (hs:a.eval s=v) (hown:Own base e k w v L) (ad:Addr) (hx:a.eval x=.slice (some ad) 1 1)
 (hcell:w.cell? ad=some (.int k (d:Int))) (hlen:L.length≤8796093022207) (hbase:base≤w.heap.size)
 (h: ∀v' w',Own base e k w' v' (L++ [d])→Below base w w'→wpList P ops Q rest (a.put o.dst v') w'):wpList P ops Q (o::rest) a w:=by
 obtain ⟨ht,i,hi,hz,hsz,hb⟩:=he
 refine wpList_append_own w hgd s x t ho base e i (.int k 0) 1 bytes ht hi hz hsz hb rfl (by decide) v L.length _ hs hown ad 1 1 [.int k (d:Int)] hx rfl ?_ ?_ ?_ ?_ hbase ?_
 ·intro j u hj
  match j,hj with
  |0,hj=>simp at hj;subst hj;simpa [Addr.add] using hcell
 ·intro u hu;simp at hu;subst hu;rfl
 ·unfold maxLen;omega
 ·have:(L.length+1)*bytes≤(L.length+1)*8:=Nat.mul_le_mul_left _ hby
  omega
 ·intro v' w' h1 h2 _
  refine h v' w' ?_ ?_
  ·unfold Own nums;rw [List.length_append,List.map_append];exact h1
  ·exact ⟨h2.os,h2.tape,h2.output,h2.size,fun b hbk=>h2.block b (by omega) (fun e=>by have:=(hown.lt b e.symm).1;omega)⟩
end
theorem nums_at (k:IntKind) (L:List Nat) (i:Nat) (hi:i<L.length):(nums k L)[i]? =some (.int k (lb L i)):=by
 unfold nums lb
 rw [List.getElem?_map,List.getElem?_eq_getElem hi,getD_in _ _ hi];rfl
theorem nums_set (k:IntKind) (L:List Nat) (i d:Nat):(nums k L).set i (.int k (d:Int))=nums k (L.set i d):=by
 unfold nums;rw [List.map_set]
theorem Own.cell {base:Nat} {e:TypeId} {k:IntKind} {w:World} {g n cap:Nat} {L:List Nat} (h:Own base e k w (.slice (some ⟨g,0,none⟩) n cap) L) (i:Nat) (hi:i<L.length):w.cell? ⟨g,i,none⟩=some (.int k (lb L i)):=by
 have hn:n=L.length:=by
  rcases h.2 with ⟨h',_⟩|⟨g',cap',cur,h',_⟩
  ·simp at h'
  ·simp at h';omega
 subst hn
 rw [World.ownsRow.cellAt h i (by omega),nums_at k L i hi]
theorem Own.len {base:Nat} {e:TypeId} {k:IntKind} {w:World} {g n cap:Nat} {L:List Nat} (h:Own base e k w (.slice (some ⟨g,0,none⟩) n cap) L):n=L.length:=by
 rcases h.2 with ⟨h',_⟩|⟨g',cap',cur,h',_⟩
 ·simp at h'
 ·simp at h';omega
theorem Own.base {base:Nat} {e:TypeId} {k:IntKind} {w:World} {g n cap:Nat} {L:List Nat} (h:Own base e k w (.slice (some ⟨g,0,none⟩) n cap) L):base≤g:=(World.ownsRow.lt h g rfl).1
theorem Own.free {base:Nat} {e:TypeId} {k:IntKind} {w:World} {g n cap:Nat} {L:List Nat} (h:Own base e k w (.slice (some ⟨g,0,none⟩) n cap) L) (i:Nat):w.frozen? ⟨g,i,none⟩=false:=by
 have hn:=h.len;subst hn
 exact World.ownsRow.frozenAt h i
theorem Own.set {base:Nat} {e:TypeId} {k:IntKind} {w:World} {g n cap:Nat} {L:List Nat} (h:Own base e k w (.slice (some ⟨g,0,none⟩) n cap) L) (i d:Nat):
 Own base e k (w.setCell ⟨g,i,none⟩ (.int k (d:Int))) (.slice (some ⟨g,0,none⟩) n cap) (L.set i d):=by
 have hn:=h.len;subst hn
 have:=(World.ownsRow.stored h i (.int k (d:Int))).1
 rw [nums_set] at this
 unfold Own;rw [List.length_set];exact this
theorem Own.set_below {base:Nat} {e:TypeId} {k:IntKind} {w:World} {g n cap:Nat} {L:List Nat} (h:Own base e k w (.slice (some ⟨g,0,none⟩) n cap) L) (i:Nat) (u:Value):
 Below base w (w.setCell ⟨g,i,none⟩ u):=(Below.refl _ _).setCell h.base u
theorem Own.drew {base:Nat} {e:TypeId} {k:IntKind} {w:World} {v:Value} {L:List Nat} (h:Own base e k w v L) (n:Nat):Own base e k (w.drewN n) v L:=h
section
variable {P:Program} {w:World}
theorem madeCells_nums (k:IntKind) (n:Nat):(madeCells (Value.int k 0).cells (n*1)).toList=nums k (List.replicate n 0):=by
 apply List.ext_getElem
 ·simp [madeCells,nums]
 ·intro i h1 h2
  simp [madeCells,nums,Value.cells,Nat.mod_one]
theorem wpList_zeros {ops:Array Oper} {rest:List Oper} {o:Oper} {a:Act} {Q:Exit→Act→World→Prop} {t e:TypeId} {k:IntKind} {bytes:Nat} (he:ElemInfo P t e k bytes) (hby:bytes≤8) (hgd:o.guard=none) (l c:Operand)
 (ho:o.op=Op.makeSlice t l c) (n:Nat) (N1 N2:Int) (kl kc:IntKind) (hl:a.eval l=.int kl N1) (hc:a.eval c=.int kc N2) (h1:N1=(n:Int)) (h2:N2=(n:Int)) (hn:n≤8796093022207)
 (h: ∀w',Own w.heap.size e k w' (.slice (some ⟨w.heap.size,0,none⟩) n n) (List.replicate n 0)→Below w.heap.size w w'→wpList P ops Q rest (a.put o.dst (.slice (some ⟨w.heap.size,0,none⟩) n n)) w'):wpList P ops Q (o::rest) a w:=by
 obtain ⟨ht,i,hi,hz,hsz,hb⟩:=he
 refine wpList_make_full w hgd l c t ho w.heap.size e i (.int k 0) 1 ht hi hz hsz kl kc N1 N2 n hl hc h1 h2 ?_ ?_ (Nat.le_refl _) ?_
 ·rw [hb]
  have:=Nat.mul_le_mul hby hn
  omega
 ·unfold maxLen;omega
 ·intro w' h3 h4
  refine h w' ?_ ?_
  ·unfold Own;rw [List.length_replicate,←madeCells_nums];exact h3
  ·exact ⟨h4.os,h4.tape,h4.output,h4.size,fun b hbk=>h4.block b hbk (by simp)⟩
end
def RetN2 (w:World) (n:Nat) (r:Value) (e:Ending) (w':World):Prop:=
 ∃ao,e=.returned (.tuple #[.slice ao (limbs n).length (limbs n).length,r])∧Ns .u32 w' ao (limbs n).length (limbs n)∧Below w.heap.size w w'
theorem own_made (w:World) (k:IntKind) (e:TypeId) (l c:Nat) (h:l≤c) (hc:c≤maxLen):Own w.heap.size e k (w.alloc (.cells (madeCells (Value.int k 0).cells c) e)) (.slice (some ⟨w.heap.size,0,none⟩) l c) (List.replicate l 0):=by
 have e1:madeCells (Value.int k 0).cells c=madeCells (Value.int k 0).cells (c*1):=by rw [Nat.mul_one]
 rw [e1]
 unfold Own
 rw [List.length_replicate]
 refine ⟨by rw [nums_len];simp,.inr ⟨w.heap.size,c,_,rfl,Nat.le_refl _,heap_alloc_new w _,h,hc,by simp [madeCells],?_⟩⟩
 rw [madeCells_nums]
 unfold nums
 rw [←List.map_take,List.take_replicate];congr 2;omega
theorem wpList_makeLC {P:Program} {w:World} {ops:Array Oper} {rest:List Oper} {o:Oper} {a:Act} {Q:Exit→Act→World→Prop} {t e:TypeId} {k:IntKind} {bytes:Nat} (he:ElemInfo P t e k bytes) (hby:bytes≤8) (hgd:o.guard=none) (x y:Operand)
 (ho:o.op=Op.makeSlice t x y) (l c:Nat) (N1 N2:Int) (kl kc:IntKind) (hl:a.eval x=.int kl N1) (hc:a.eval y=.int kc N2) (h1:N1=(l:Int)) (h2:N2=(c:Int)) (hlc:l≤c) (hn:c≤8796093022207)
 (h: ∀w',Own w.heap.size e k w' (.slice (some ⟨w.heap.size,0,none⟩) l c) (List.replicate l 0)→Below w.heap.size w w'→wpList P ops Q rest (a.put o.dst (.slice (some ⟨w.heap.size,0,none⟩) l c)) w'):wpList P ops Q (o::rest) a w:=by
 obtain ⟨ht,i,hi,hz,hsz,hb⟩:=he
 subst h1 h2
 have hm:=Nat.mul_le_mul hby hn
 have hb8:(i.bytes:Int)*(c:Int)≤281474976710656:=by rw [hb];have:(bytes:Int)*(c:Int)=((bytes*c:Nat):Int):=(Int.natCast_mul _ _).symm
                                                    rw [this];omega
 have hrun:=run_make (P:=P) w t e i (.int k 0) ht hi hz kl kc (l:Int) (c:Int) (by omega) (by omega) hb8 (by omega)
 rw [Int.toNat_natCast,Int.toNat_natCast,hsz] at hrun
 refine wpList_plain hgd fun K hK'=>?_
 unfold Oper.wp
 simp only [execOp,ho,hl,hc]
 simp [hrun,Result.andThen]
 exact hK' _ _ (h _ (own_made w k e l c hlc (by unfold maxLen;omega)) (below_alloc _ _))
def ElemIs (w:World) (b:Nat) (e:TypeId):Prop:= ∃n,w.shape? b=some (e,n)
theorem ElemIs.uniq {w:World} {b:Nat} {e e':TypeId} (h:ElemIs w b e) (h':ElemIs w b e'):e=e':=by
 obtain ⟨n,h⟩:=h
 obtain ⟨m,h'⟩:=h'
 rw [h] at h';simp at h';exact h'.1
theorem ElemIs.lt {w:World} {b:Nat} {e:TypeId} (h:ElemIs w b e):b<w.heap.size:=by
 obtain ⟨n,h⟩:=h
 rcases Nat.lt_or_ge b w.heap.size with h1|h1
 ·exact h1
 ·simp [World.shape?,Array.getElem?_eq_none h1] at h
theorem shape_of_block {w w':World} {b:Nat} (h:w'.heap[b]? =w.heap[b]?):w'.shape? b=w.shape? b:=by simp [World.shape?,h]
theorem ElemIs.belowB {B:Nat} {w w':World} {b:Nat} {e:TypeId} (h:ElemIs w b e) (hb:Below B w w') (hB:b<B):ElemIs w' b e:=by
 obtain ⟨n,h1⟩:=h
 exact ⟨n,by rw [shape_of_block (hb.block b hB)];exact h1⟩
theorem ElemIs.below {w w':World} {b:Nat} {e:TypeId} (h:ElemIs w b e) (hb:Below w.heap.size w w'):ElemIs w' b e:=h.belowB hb h.lt
theorem shape_setCell (w:World) (a:Addr) (u:Value) (b:Nat):(w.setCell a u).shape? b=w.shape? b:=by
 by_cases h:a.block=b
 ·subst h
  simp only [World.shape?,World.setCell,Array.getElem?_modify]
  rw [if_pos trivial]
  cases hx:w.heap[a.block]? with
  |none=>rfl
  |some o=>cases o<;>simp<;>(try split)<;>simp
 ·exact shape_of_block (Below.heap_setCell _ _ _ _ (fun e=>h e.symm))
theorem ElemIs.setCell {w:World} {b:Nat} {e:TypeId} (h:ElemIs w b e) (a:Addr) (u:Value):ElemIs (w.setCell a u) b e:=by
 obtain ⟨n,h⟩:=h
 exact ⟨n,by rw [shape_setCell];exact h⟩
theorem ElemIs.made (w:World) (c:Array Value) (t:TypeId):ElemIs (w.alloc (.cells c t)) w.heap.size t:=⟨c.size,by unfold World.shape?;rw [heap_alloc_new]⟩
theorem ElemIs.made' (w:World) (c:Array Value) (t:TypeId) {g:Nat} (hg:g=w.heap.size):ElemIs (w.alloc (.cells c t)) g t:=by subst hg;exact ElemIs.made w c t
theorem ElemIs.alloc {w:World} {b:Nat} {e:TypeId} (h:ElemIs w b e) (o:Obj):ElemIs (w.alloc o) b e:=h.below (below_alloc _ _)
def Nz (e:TypeId) (w:World) (ao:Option Addr) (cap:Nat) (L:List Nat):Prop:=
 Ns .i64 w ao cap L∧(0<L.length→ ∀b off,ao=some ⟨b,off,none⟩→ElemIs w b e)
theorem Nz.ns {e:TypeId} {w:World} {ao:Option Addr} {cap:Nat} {L:List Nat} (h:Nz e w ao cap L):Ns .i64 w ao cap L:=h.1
theorem Nz.below {e:TypeId} {w w':World} {ao:Option Addr} {cap:Nat} {L:List Nat} (h:Nz e w ao cap L) (hb:Below w.heap.size w w'):Nz e w' ao cap L:=
 ⟨h.1.below hb,fun hp b off he=>(h.2 hp b off he).below hb⟩
theorem Nz.nil' {e:TypeId} {w:World} (ao:Option Addr) (cap:Nat) (h:cap≤maxLen):Nz e w ao cap []:=⟨Ns.nil' ao cap h,fun h=>by simp at h⟩
theorem Nz.take {e:TypeId} {w:World} {ao:Option Addr} {cap:Nat} {L:List Nat} (h:Nz e w ao cap L) (n c:Nat) (hn:n≤L.length) (hc:n≤c) (hcc:c≤cap):Nz e w ao c (L.take n):=
 ⟨h.1.take n c hn hc hcc,fun hp b off he=>h.2 (by rw [List.length_take] at hp;omega) b off he⟩
theorem Ns.setCell_far {k:IntKind} {w:World} {ao:Option Addr} {cap:Nat} {L:List Nat} (h:Ns k w ao cap L) (a:Addr) (u:Value) (hne:0<L.length→ ∀b off,ao=some ⟨b,off,none⟩→a.block≠b):Ns k (w.setCell a u) ao cap L:=by
 obtain ⟨h1,h2,h3⟩:=h
 refine ⟨h1,h2,fun hp=>?_⟩
 obtain ⟨b,off,e,hc⟩:=h3 hp
 refine ⟨b,off,e,fun i hi=>?_⟩
 rw [World.cell?_setCell_other]
 ·exact hc i hi
 ·intro h;exact hne hp b off e (by rw [h])
theorem Nz.setCell {e t:TypeId} {w:World} {ao:Option Addr} {cap:Nat} {L:List Nat} (h:Nz e w ao cap L) {g:Nat} (hs:ElemIs w g t) (hne:t≠e) (o:Nat) (u:Value):Nz e (w.setCell ⟨g,o,none⟩ u) ao cap L:=by
 refine ⟨h.1.setCell_far _ _ (fun hp b off he hb=>?_),fun hp b off he=>(h.2 hp b off he).setCell _ _⟩
 subst hb
 exact hne (hs.uniq (h.2 hp _ off he))
theorem Own.nz {base:Nat} {e:TypeId} {w:World} {v:Value} {L:List Nat} (h:Own base e .i64 w v L): ∃ao cap,v=.slice ao L.length cap∧Nz e w ao cap L:=by
 obtain ⟨ao,cap,h1,h2⟩:=h.ns
 refine ⟨ao,cap,h1,h2,fun hp b off he=>?_⟩
 subst h1 he
 rcases h.2 with ⟨hn,_⟩|⟨g,cap',cur,hv,hg,hh,_⟩
 ·simp at hn
 ·simp at hv
  obtain ⟨⟨rfl,rfl⟩,rfl⟩:=hv
  exact ⟨cur.size,by simp [World.shape?,hh]⟩
theorem Ns.setCell_kind {k:IntKind} {w:World} {ao:Option Addr} {cap:Nat} {L:List Nat} (h:Ns k w ao cap L) (a:Addr) (u v:Value) (hv:w.cell? a=some v) (hne: ∀n,v≠ .int k n):Ns k (w.setCell a u) ao cap L:=by
 obtain ⟨h1,h2,h3⟩:=h
 refine ⟨h1,h2,fun hp=>?_⟩
 obtain ⟨b,off,e,hc⟩:=h3 hp
 refine ⟨b,off,e,fun i hi=>?_⟩
 rw [World.cell?_setCell_other]
 ·exact hc i hi
 ·intro h
  rw [h,hc i hi] at hv
  simp at hv;exact hne _ hv.symm
theorem Own.set_other {base:Nat} {e:TypeId} {k:IntKind} {w:World} {v:Value} {L:List Nat} (h:Own base e k w v L) (a:Addr) (ha:a.block<base) (u:Value):Own base e k (w.setCell a u) v L:=ownsRow_setCell_below h ha u
theorem Own.drewN {base:Nat} {e:TypeId} {k:IntKind} {w:World} {v:Value} {L:List Nat} (h:Own base e k w v L) (n:Nat):Own base e k (w.drewN n) v L:=h
theorem Own.slice {base:Nat} {e:TypeId} {k:IntKind} {w:World} {v:Value} {L:List Nat} (h:Own base e k w v L): ∃ao n cap,v=.slice ao n cap:=by
 obtain ⟨ao,cap,h1,_⟩:=h.ns
 exact ⟨ao,_,cap,h1⟩
theorem Own.fresh {base:Nat} {e:TypeId} {k:IntKind} {w:World} {ao:Option Addr} {n cap:Nat} {L:List Nat} (h:Own base e k w (.slice ao n cap) L) (p:Addr) (hp:ao=some p):base≤p.block:=by
 subst hp
 rcases h.2 with ⟨hn,_⟩|⟨g,cap',cur,hv,hg,_⟩
 ·simp at hn
 ·injection hv with h1 h2 h3
  injection h1 with h1
  rw [h1];exact hg
end Go.Ulp
