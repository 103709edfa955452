/- SeriesLog: what the proof leans on, part 4 (Gp22 Gp23 Gp24 Num). -/
import Derived.Test.YtehhegbkahnhgaaDoorKSeriesLog3
set_option linter.unusedVariables false
set_option linter.unusedSimpArgs false
namespace Go.Ulp
def LnB (D:Nat) (v:Nat→Rat) (x:PP):Prop:= ∃N0,∀N,N0≤N→(x.1:Rat)≤(D:Rat)*v N∧(D:Rat)*v N≤(x.2:Rat)
theorem LnB.add {D:Nat} {v w:Nat→Rat} {x y:PP} (h:LnB D v x) (k:LnB D w y):LnB D (addS v w) (plP x y):=by
 obtain ⟨A,h⟩:=h
 obtain ⟨B,k⟩:=k
 refine ⟨A+B,fun N hN=>?_⟩
 obtain ⟨a,b⟩:=h N (by omega)
 obtain ⟨c,d⟩:=k N (by omega)
 show ((x.1+y.1:Nat):Rat)≤(D:Rat)*(v N+w N)∧(D:Rat)*(v N+w N)≤((x.2+y.2:Nat):Rat)
 rw [Rat.natCast_add,Rat.natCast_add]
 constructor<;>grind
def sgP (x:PP) (neg:Bool):Int×Int:=if neg=true then (-(x.2:Int),-(x.1:Int)) else ((x.1:Int),(x.2:Int))
def mlP (M:Nat) (x:PP):PP:=(x.1*M,x.2*M)
def addI (x y:Int×Int):Int×Int:=(x.1+y.1,x.2+y.2)
theorem LnB.sg {D:Nat} {v:Nat→Rat} {x:PP} (h:LnB D v x) (neg:Bool):InS D (sgS neg v) (sgP x neg):=by
 obtain ⟨A,h⟩:=h
 refine ⟨A,fun N hN=>?_⟩
 obtain ⟨a,b⟩:=h N hN
 unfold sgS sgP
 cases neg
 ·simp only [Bool.false_eq_true,if_false]
  rw [Rat.intCast_natCast,Rat.intCast_natCast]
  exact ⟨a,b⟩
 ·simp only [if_true]
  rw [Rat.intCast_neg,Rat.intCast_neg,Rat.intCast_natCast,Rat.intCast_natCast]
  constructor<;>grind
theorem LnB.zs {D:Nat} {v:Nat→Rat} {x:PP} (h:LnB D v x) (n:Int):InS D (zS n v) (sgP (mlP n.natAbs x) (decide (n<0))):=by
 have k:LnB D (fun N=>(n.natAbs:Rat)*v N) (mlP n.natAbs x):=by
  obtain ⟨A,h⟩:=h
  refine ⟨A,fun N hN=>?_⟩
  obtain ⟨a,b⟩:=h N hN
  have m0:=Rat.natCast_nonneg (a:=n.natAbs)
  have a2:=Rat.mul_le_mul_of_nonneg_left a m0
  have b2:=Rat.mul_le_mul_of_nonneg_left b m0
  show ((x.1*n.natAbs:Nat):Rat)≤_∧_≤((x.2*n.natAbs:Nat):Rat)
  rw [cast_mul,cast_mul]
  constructor<;>grind
 have q:=k.sg (decide (n<0))
 obtain ⟨A,q⟩:=q
 refine ⟨A,fun N hN=>?_⟩
 have r:=q N hN
 have e:sgS (decide (n<0)) (fun N=>(n.natAbs:Rat)*v N) N=zS n v N:=by
  unfold sgS zS
  by_cases hn:n<0
  ·rw [decide_eq_true hn,if_pos rfl]
   have:(n:Rat)= -(n.natAbs:Rat):=by
    rw [←Rat.intCast_natCast,←Rat.intCast_neg];congr 1;omega
   rw [this];grind
  ·rw [decide_eq_false hn,if_neg (by simp)]
   have:(n:Rat)=(n.natAbs:Rat):=by
    rw [←Rat.intCast_natCast];congr 1;omega
   rw [this]
 rw [e] at r
 exact r
theorem InS.add {D:Nat} {v w:Nat→Rat} {x y:Int×Int} (h:InS D v x) (k:InS D w y):InS D (addS v w) (addI x y):=by
 obtain ⟨A,h⟩:=h
 obtain ⟨B,k⟩:=k
 refine ⟨A+B,fun N hN=>?_⟩
 obtain ⟨a,b⟩:=h N (by omega)
 obtain ⟨c,d⟩:=k N (by omega)
 show ((x.1+y.1:Int):Rat)≤(D:Rat)*(v N+w N)∧(D:Rat)*(v N+w N)≤((x.2+y.2:Int):Rat)
 rw [Rat.intCast_add,Rat.intCast_add]
 constructor<;>grind
def Wd (x:Int×Int) (w:Nat):Prop:=x.1≤x.2∧x.2≤x.1+(w:Int)
theorem sgP_wd {x:PP} {w:Nat} (h:x.1≤x.2) (k:x.2≤x.1+w) (neg:Bool):Wd (sgP x neg) w:=by
 unfold sgP Wd
 cases neg
 ·simp only [Bool.false_eq_true,if_false];omega
 ·simp only [if_true];omega
theorem mlP_wd {x:PP} {w:Nat} (h:x.1≤x.2) (k:x.2≤x.1+w) (M:Nat):(mlP M x).1≤(mlP M x).2∧(mlP M x).2≤(mlP M x).1+w*M:=by
 refine ⟨Nat.mul_le_mul_right _ h,?_⟩
 show x.2*M≤x.1*M+w*M
 rw [←Nat.add_mul]
 exact Nat.mul_le_mul_right _ k
theorem addI_wd {x y:Int×Int} {w v:Nat} (h:Wd x w) (k:Wd y v):Wd (addI x y) (w+v):=by
 obtain ⟨a,b⟩:=h
 obtain ⟨c,d⟩:=k
 unfold addI Wd
 simp only
 omega
def LnOK (m:Nat) (e:Int) (D W:Nat) (x:Int×Int):Prop:= ∃u,LogTo u (dyQ m e)∧InS D u x∧Wd x (2^W)
theorem LnOK.uniq {m:Nat} {e:Int} {D D' W W':Nat} {x y:Int×Int} (h:LnOK m e D W x) (k:LnOK m e D' W' y) (hD:0<D) (hD':0<D') (pl:Nat) (z w:Int) (h1:x.1*((2^pl:Nat):Int)/(D:Int)=z) (h2:x.2*((2^pl:Nat):Int)/(D:Int)=z) (k1:y.1*((2^pl:Nat):Int)/(D':Int)=w) (k2:y.2*((2^pl:Nat):Int)/(D':Int)=w):z=w:=by
 obtain ⟨u,a,b,-⟩:=h
 obtain ⟨v,c,d,-⟩:=k
 exact lf_uniq (a.uniq c) (lf_of hD b pl z h1 h2) (lf_of hD' d pl w k1 k2)
theorem LnOK.ends {m:Nat} {e:Int} {D W:Nat} {x:Int×Int} (h:LnOK m e D W x) (hD:0<D) (h0:0<m) (hm:m<2^1280) (he: -3000≤e∧e≤3000) (h1:dyQ m e≠1) (pl g:Nat) (hpl:pl≤1300) (hg:g=GG+4300) (hp:2^(W+g)≤D):x.1*((2^pl:Nat):Int)/(D:Int)=x.2*((2^pl:Nat):Int)/(D:Int):=by
 obtain ⟨u,a,b,c,d⟩:=h
 exact sep_lf hD (log_far m e a h0 hm he h1 pl g hpl hg) b c W d hp
def atP (z:PP) (p k:Nat):PP:=(2*(asP z p k).1,2*((asP z p k).2+4))
def rtP (t:PP) (D k:Nat):PP:=(2*(rsP t D k).1,2*((rsP t D k).2+9))
theorem InV.frB {r b D:Nat} (hb:0<b) {ζ:Rat} (h:(b:Rat)*ζ=(r:Rat)):InV D ζ (Go.Ulp.frB r b D):=frB_in r b D hb ζ h
theorem atP_ok {z:PP} {p k:Nat} {ζ:Rat} (h:0≤ζ) (h2:2*ζ≤1) (hz:InV (2^p) ζ z) (he:(apP z p k).2≤1):LnB (2^p) (lnN ζ) (atP z p k):=
 ⟨k+1,at_brk h h2 k 4 (apP_in h hz k) (asP_in h hz k) (by omega) (by omega)⟩
theorem rtP_ok {t:PP} {D k:Nat} (hD:0<D) {ζ:Rat} (h:0≤ζ) (h2:2*ζ≤1) (hz:InV D ζ t) (he:(rpP t D k).2≤2):LnB D (lnN ζ) (rtP t D k):=
 ⟨k+1,at_brk h h2 k 9 (rpP_in hD h hz k) (rsP_in hD h hz k) he (by omega)⟩
theorem wd_num (k w:Nat) (hk:k≤2^36) (hw:w=(k+1)*(6*k+10)):2*w+18≤2^80:=by
 have a:(k+1)*(6*k+10)≤(2^36+1)*(6*2^36+10):=Nat.mul_le_mul (by omega) (by omega)
 have b:2*((2^36+1)*(6*2^36+10))+18≤2^80:=by decide
 omega
theorem atP_wd {z:PP} {p k:Nat} (hp:2≤p) (hz:2*z.2≤2^p) (h01:z.1≤z.2) (hw:z.2≤z.1+1) (hk:k≤2^36):(atP z p k).1≤(atP z p k).2∧(atP z p k).2≤(atP z p k).1+2^80:=by
 obtain ⟨a,b⟩:=asP_wd hp hz h01 hw k
 have c:=wd_num k _ hk rfl
 show 2*(asP z p k).1≤2*((asP z p k).2+4)∧2*((asP z p k).2+4)≤2*(asP z p k).1+_
 omega
theorem rtP_wd {t:PP} {D k:Nat} (hD:12≤D) (ht:2*t.2≤D) (h01:t.1≤t.2) (hw:t.2≤t.1+1) (hk:k≤2^36):(rtP t D k).1≤(rtP t D k).2∧(rtP t D k).2≤(rtP t D k).1+2^80:=by
 obtain ⟨a,b⟩:=rsP_wd hD ht h01 hw k
 have c:=wd_num k _ hk rfl
 show 2*(rsP t D k).1≤2*((rsP t D k).2+9)∧2*((rsP t D k).2+9)≤2*(rsP t D k).1+_
 omega
theorem frB_w (r b D:Nat):(frB r b D).1≤(frB r b D).2∧(frB r b D).2≤(frB r b D).1+1:=by
 constructor
 ·show r*D/b≤cdiv (r*D) b
  unfold cdiv;split<;>omega
 ·show cdiv (r*D) b≤r*D/b+1
  exact cdiv_up _ _
theorem wd_all (M:Nat) (hM:M≤8192):2^80+2^81*M≤2^100:=by
 have a:2^81*M≤2^81*8192:=Nat.mul_le_mul_left _ hM
 have b:2^80+2^81*8192≤2^100:=by decide
 omega
theorem Wd.mono {x:Int×Int} {w v:Nat} (h:Wd x w) (k:w≤v):Wd x v:=by obtain ⟨a,b⟩:=h;exact ⟨a,by omega⟩
theorem prog_ok (m:Nat) (e:Int) (s:Nat) (neg:Bool) (num den p kA kT:Nat) (hm:0<m) (h1:if neg=true then m<2^s∧2^s≤3*m∧num=2^s-m else 2^s≤m∧m≤3*2^s∧num=m-2^s) (hd:den=m+2^s) (hp:2≤p) (hn:(e+s).natAbs≤8000)
 (eA:(apP (frB num den (2^p)) p kA).2≤1) (eT:(apP (frB 1 3 (2^p)) p kT).2≤1) (lA:kA≤2^36) (lT:kT≤2^36):
 LnOK m e (2^p) 100 (addI (sgP (atP (frB num den (2^p)) p kA) neg) (sgP (mlP (e+s).natAbs (atP (frB 1 3 (2^p)) p kT)) (decide (e+s<0)))):=by
 have P:(0:Rat)<(den:Rat):=Rat.natCast_pos.2 (by have:=Nat.two_pow_pos s;omega)
 obtain ⟨hden,hhalf,z0,z1,hlog⟩:=prog_to m e s neg num den hm h1 hd ((num:Rat)/(den:Rat)) (by grind)
 have even:2*(2^p/2)=2^p:=by
  have:2^p=2^(p-1)*2:=by rw [←Nat.pow_succ];congr 1;omega
  omega
 obtain ⟨a1,a2⟩:=frB_w num den (2^p)
 obtain ⟨b1,b2⟩:=frB_w 1 3 (2^p)
 have ha:=frB_half num den (2^p) hden hhalf even
 have hb:=frB_half 1 3 (2^p) (by omega) (by omega) even
 obtain ⟨wa,wb⟩:=atP_wd hp ha a1 a2 lA
 obtain ⟨wc,wd⟩:=atP_wd hp hb b1 b2 lT
 obtain ⟨me,mf⟩:=mlP_wd wc wd (e+s).natAbs
 have i1:=(atP_ok z0 z1 (InV.frB hden (ζ:=(num:Rat)/(den:Rat)) (by grind)) eA).sg neg
 have i2:=(atP_ok (p:=p) (show (0:Rat)≤1/3 by grind) (by grind) (InV.frB (r:=1) (b:=3) (by omega) (by
  have o3:((3:Nat):Rat)=3:=rfl
  have o1:((1:Nat):Rat)=1:=rfl
  rw [o3,o1];grind)) eT).zs (e+s)
 refine ⟨_,hlog,i1.add i2,(addI_wd (sgP_wd wa wb neg) (sgP_wd me mf _)).mono ?_⟩
 have:=wd_all (e+s).natAbs (by omega)
 have e81:2^81=2^80*2:=by rw [←Nat.pow_succ]
 have:2^80*(e+s).natAbs≤2^81*(e+s).natAbs:=Nat.mul_le_mul_right _ (by omega)
 omega
theorem ref_ok (m:Nat) (e k:Int) (a b D kA k1 k2:Nat) (hb:0<b) (hab:(b:Rat)*dyQ m (e-k)=(a:Rat)) (h1:b≤a) (h2:a≤2*b) (hD:12≤D) (even:2*(D/2)=D) (hk:k.natAbs≤8000)
 (eA:(rpP (frB (a-b) (a+b) D) D kA).2≤2) (e1:(rpP (frB 1 7 D) D k1).2≤2) (e2:(rpP (frB 1 5 D) D k2).2≤2) (lA:kA≤2^36) (l1:k1≤2^36) (l2:k2≤2^36):
 LnOK m e D 100 (addI (sgP (rtP (frB (a-b) (a+b) D) D kA) false) (sgP (mlP k.natAbs (plP (rtP (frB 1 7 D) D k1) (rtP (frB 1 5 D) D k2))) (decide (k<0)))):=by
 have P:(0:Rat)<((a+b:Nat):Rat):=Rat.natCast_pos.2 (by omega)
 obtain ⟨hhalf,z0,z1,hlog⟩:=ref_to m e k a b hb hab h1 h2 (((a-b:Nat):Rat)/((a+b:Nat):Rat)) (by grind)
 obtain ⟨a1,a2⟩:=frB_w (a-b) (a+b) D
 obtain ⟨b1,b2⟩:=frB_w 1 7 D
 obtain ⟨c1,c2⟩:=frB_w 1 5 D
 have ha:=frB_half (a-b) (a+b) D (by omega) hhalf even
 have hb7:=frB_half 1 7 D (by omega) (by omega) even
 have hb5:=frB_half 1 5 D (by omega) (by omega) even
 obtain ⟨wa,wb⟩:=rtP_wd hD ha a1 a2 lA
 obtain ⟨wc,wd⟩:=rtP_wd hD hb7 b1 b2 l1
 obtain ⟨we,wf⟩:=rtP_wd hD hb5 c1 c2 l2
 have i1:=(rtP_ok (show 0<D by omega) z0 z1 (InV.frB (r:=a-b) (b:=a+b) (by omega) (by grind)) eA).sg false
 have o1:((1:Nat):Rat)=1:=rfl
 have i7:=rtP_ok (D:=D) (k:=k1) (show 0<D by omega) (show (0:Rat)≤1/7 by grind) (by grind) (InV.frB (r:=1) (b:=7) (by omega) (by
  have o3:((7:Nat):Rat)=7:=rfl
  rw [o3,o1];grind)) e1
 have i5:=rtP_ok (D:=D) (k:=k2) (show 0<D by omega) (show (0:Rat)≤1/5 by grind) (by grind) (InV.frB (r:=1) (b:=5) (by omega) (by
  have o3:((5:Nat):Rat)=5:=rfl
  rw [o3,o1];grind)) e2
 have i2:=(i7.add i5).zs k
 have e81:2^81=2^80*2:=by rw [←Nat.pow_succ]
 have wt1:(plP (rtP (frB 1 7 D) D k1) (rtP (frB 1 5 D) D k2)).1≤(plP (rtP (frB 1 7 D) D k1) (rtP (frB 1 5 D) D k2)).2:=Nat.add_le_add wc we
 have wt2:(plP (rtP (frB 1 7 D) D k1) (rtP (frB 1 5 D) D k2)).2≤(plP (rtP (frB 1 7 D) D k1) (rtP (frB 1 5 D) D k2)).1+2^81:=by
  show (rtP (frB 1 7 D) D k1).2+(rtP (frB 1 5 D) D k2).2≤(rtP (frB 1 7 D) D k1).1+(rtP (frB 1 5 D) D k2).1+_
  omega
 obtain ⟨me,mf⟩:=mlP_wd wt1 wt2 k.natAbs
 refine ⟨_,hlog.congr (fun N=>?_) rfl,i1.add i2,(addI_wd (sgP_wd wa wb false) (sgP_wd me mf _)).mono (wd_all _ (by omega))⟩
 show (if false=true then _ else _)+_=_+_
 rw [if_neg (by simp)]
theorem asP_top {z:PP} {p:Nat} (hp:2≤p) (hz:2*z.2≤2^p): ∀k,(asP z p k).2≤(k+1)*2^p
 |0=>by show z.2≤_;omega
 |k+1=>by
  have a:=asP_top hp hz k
  have b:=(apP_top hp hz).2 (k+1)
  have c:(apP z p (k+1)).2≤2^p:=Nat.le_trans b (Nat.pow_le_pow_right (by omega) (by omega))
  have d:cdiv (apP z p (k+1)).2 (2*k+3)≤(apP z p (k+1)).2:=cdiv_self_le _ _ (by omega)
  have e:(k+1+1)*2^p=(k+1)*2^p+2^p:=Nat.succ_mul _ _
  show (asP z p k).2+cdiv (apP z p (k+1)).2 (2*k+3)≤_
  omega
structure AtOK (num den p k:Nat):Prop where
 hd:0<den
 h2:2*num≤den
 ln:num≤2^9000
 ld:den≤2^9000
 p0:20≤p
 p1:p≤34359738368
 k1:k≤p
 e1:(apP (frB num den (2^p)) p k).2≤1
 e2: ∀i,i<k→ ¬(apP (frB num den (2^p)) p i).2≤1
theorem even_two {p:Nat} (hp:1≤p):2*(2^p/2)=2^p:=by
 have:2^p=2^(p-1)*2:=by rw [←Nat.pow_succ];congr 1;omega
 omega
theorem atOK_ex (num den p:Nat) (hd:0<den) (h2:2*num≤den) (ln:num≤2^9000) (ld:den≤2^9000) (p0:20≤p) (p1:p≤34359738368): ∃k,AtOK num den p k:=by
 obtain ⟨k,a,b,c⟩:=apP_end (z:=frB num den (2^p)) (show 2≤p by omega) (frB_half num den _ hd h2 (even_two (by omega)))
 exact ⟨k,hd,h2,ln,ld,p0,p1,a,b,c⟩
theorem AtOK.half {num den p k:Nat} (h:AtOK num den p k):2*(frB num den (2^p)).2≤2^p:=frB_half num den _ h.hd h.h2 (even_two (by have:=h.p0;omega))
theorem AtOK.pw {num den p k:Nat} (h:AtOK num den p k) (i:Nat):(apP (frB num den (2^p)) p i).1≤2^p∧(apP (frB num den (2^p)) p i).2≤2^p:=by
 have p0:=h.p0
 obtain ⟨a,b⟩:=frB_w num den (2^p)
 have c:=(apP_wd (show 2≤p by omega) h.half a b i).2
 have d:=(apP_top (show 2≤p by omega) h.half).2 i
 have e:(apP (frB num den (2^p)) p i).2≤2^p:=Nat.le_trans d (Nat.pow_le_pow_right (by omega) (by omega))
 omega
theorem AtOK.sq {num den p k:Nat} (h:AtOK num den p k):(tmP (frB num den (2^p)) (frB num den (2^p)) p).1≤2^p∧(tmP (frB num den (2^p)) (frB num den (2^p)) p).2≤2^p:=by
 have p0:=h.p0
 obtain ⟨a,b⟩:=frB_w num den (2^p)
 have c:=tmP_le p a a
 have d:=(apP_top (show 2≤p by omega) h.half).1
 have e:(tmP (frB num den (2^p)) (frB num den (2^p)) p).2≤2^p:=Nat.le_trans d (Nat.pow_le_pow_right (by omega) (by omega))
 omega
theorem AtOK.sm {num den p k:Nat} (h:AtOK num den p k) (i:Nat) (hi:i≤p):(asP (frB num den (2^p)) p i).1≤2^(p+36)∧(asP (frB num den (2^p)) p i).2≤2^(p+36):=by
 have p0:=h.p0
 have p1:=h.p1
 obtain ⟨a,b⟩:=frB_w num den (2^p)
 have c:=(asP_wd (show 2≤p by omega) h.half a b i).2
 have d:=asP_top (show 2≤p by omega) h.half i
 have e:(i+1)*2^p≤2^36*2^p:=Nat.mul_le_mul_right _ (Nat.le_trans (show i+1≤68719476736 by omega) (by decide))
 have f:2^36*2^p=2^(p+36):=by rw [←Nat.pow_add];congr 1;omega
 omega
theorem AtOK.res {num den p k:Nat} (h:AtOK num den p k):(atP (frB num den (2^p)) p k).1≤2^(p+40)∧(atP (frB num den (2^p)) p k).2≤2^(p+40):=by
 obtain ⟨a,b⟩:=h.sm k h.k1
 have e:2^(p+40)=2^(p+36)*16:=by rw [show p+40=p+36+4 by omega,Nat.pow_add]
 have f:8≤2^(p+36):=Nat.le_trans (show 8≤2^3 by decide) (Nat.pow_le_pow_right (by omega) (by omega))
 show 2*(asP (frB num den (2^p)) p k).1≤_∧2*((asP (frB num den (2^p)) p k).2+4)≤_
 omega
def rqP (t:PP) (D:Nat):Nat→PP
 |0=>(0,0)
 |k+1=>rsP t D k
theorem rsP_eq (t:PP) (D:Nat): ∀k,rsP t D k=plP (rqP t D k) (bOv (rpP t D k) (2*k+1))
 |0=>by
  show (t.1/1,t.2/1+1)=(0+t.1/1,0+(t.2/1+1))
  rw [Nat.zero_add,Nat.zero_add]
 |k+1=>rfl
theorem rsP_top {t:PP} {D:Nat} (hD:12≤D) (ht:2*t.2≤D): ∀k,(rsP t D k).2≤(k+1)*(D+1)
 |0=>by show t.2/1+1≤_;rw [Nat.div_one];omega
 |k+1=>by
  have a:=rsP_top hD ht k
  have b:=rpP_le hD ht (k+1)
  have c:(rpP t D (k+1)).2/(2*k+3)≤(rpP t D (k+1)).2:=Nat.div_le_self _ _
  have e:(k+1+1)*(D+1)=(k+1)*(D+1)+(D+1):=Nat.succ_mul _ _
  show (rsP t D k).2+((rpP t D (k+1)).2/(2*k+3)+1)≤_
  omega
structure RtOK (num den t k:Nat):Prop where
 hd:0<den
 h2:2*num≤den
 ln:num≤10^140000
 ld:den≤10^140000
 t0:20≤t
 t1:t≤3000000000
 k1:k≤4*t+1
 e1:(rpP (frB num den (10^t)) (10^t) k).2≤2
 e2: ∀i,i<k→ ¬(rpP (frB num den (10^t)) (10^t) i).2≤2
theorem ten12' {t:Nat} (h:20≤t):12≤10^t:=Nat.le_trans (show 12≤10^20 by decide) (Nat.pow_le_pow_right (by omega) h)
theorem even_ten {t:Nat} (h:1≤t):2*(10^t/2)=10^t:=by
 have:10^t=10^(t-1)*10:=by rw [←Nat.pow_succ];congr 1;omega
 omega
theorem rtOK_ex (num den t:Nat) (hd:0<den) (h2:2*num≤den) (ln:num≤10^140000) (ld:den≤10^140000) (t0:20≤t) (t1:t≤3000000000): ∃k,RtOK num den t k:=by
 obtain ⟨k,a,b,c⟩:=rpP_end (t:=frB num den (10^t)) (D:=10^t) (K:=4*t) (ten12' t0) (frB_half num den _ hd h2 (even_ten (by omega))) (by rw [Nat.pow_mul];exact Nat.pow_le_pow_left (by omega) t)
 exact ⟨k,hd,h2,ln,ld,t0,t1,a,b,c⟩
theorem RtOK.half {num den t k:Nat} (h:RtOK num den t k):2*(frB num den (10^t)).2≤10^t:=frB_half num den _ h.hd h.h2 (even_ten (by have:=h.t0;omega))
theorem RtOK.pw {num den t k:Nat} (h:RtOK num den t k) (i:Nat):(rpP (frB num den (10^t)) (10^t) i).1≤10^t∧(rpP (frB num den (10^t)) (10^t) i).2≤10^t:=by
 obtain ⟨a,b⟩:=frB_w num den (10^t)
 have c:=(rpP_wd (ten12' h.t0) h.half a b i).2
 have d:=rpP_le (ten12' h.t0) h.half i
 omega
theorem RtOK.sq {num den t k:Nat} (h:RtOK num den t k):(bMul (frB num den (10^t)) (frB num den (10^t)) (10^t)).1≤10^t∧(bMul (frB num den (10^t)) (frB num den (10^t)) (10^t)).2≤10^t:=by
 obtain ⟨a,b⟩:=frB_w num den (10^t)
 have c:=bMul_wd (M:=1) (show 0<10^t by have:=ten12' h.t0;omega) a a b b (by have:=h.half;omega) (by have:=h.half;omega)
 have d:=(rpP_top (ten12' h.t0) h.half).1
 have e:=c.2
 omega
theorem RtOK.sm {num den t k:Nat} (h:RtOK num den t k) (i:Nat) (hi:i≤12000000010):(rsP (frB num den (10^t)) (10^t) i).1≤10^(t+12)∧(rsP (frB num den (10^t)) (10^t) i).2≤10^(t+12):=by
 obtain ⟨a,b⟩:=frB_w num den (10^t)
 have t12:=ten12' h.t0
 have c:=(rsP_wd t12 h.half a b i).2
 have d:=rsP_top t12 h.half i
 have e:(i+1)*(10^t+1)≤10^12*10^t:=by
  have f:(i+1)*(10^t+1)≤12000000011*(10^t*2):=Nat.mul_le_mul (by omega) (by omega)
  have g:12000000011*(10^t*2)=24000000022*10^t:=by rw [Nat.mul_comm (10^t),←Nat.mul_assoc]
  have k:24000000022*10^t≤10^12*10^t:=Nat.mul_le_mul_right _ (by decide)
  omega
 have f:10^12*10^t=10^(t+12):=by rw [←Nat.pow_add];congr 1;omega
 omega
theorem RtOK.sq0 {num den t k:Nat} (h:RtOK num den t k): ∀i,i≤12000000010→(rqP (frB num den (10^t)) (10^t) i).1≤10^(t+12)∧(rqP (frB num den (10^t)) (10^t) i).2≤10^(t+12)
 |0,_=>⟨Nat.zero_le _,Nat.zero_le _⟩
 |i+1,hi=>h.sm i (by omega)
theorem getD_in (L:List Nat) (k:Nat) (h:k<L.length):L.getD k 0=L[k]:=by simp [List.getD,List.getElem?_eq_getElem h]
theorem getD_out (L:List Nat) (k:Nat) (h:L.length≤k):L.getD k 0=0:=by simp [List.getD,List.getElem?_eq_none h]
def val (B:Nat):List Nat→Nat
 | []=>0
 |d::r=>d+B*val B r
def digsF (B:Nat):Nat→Nat→List Nat
 |0,_=> []
 |f+1,n=>if n=0 then [] else n%B::digsF B f (n/B)
def digs (B n:Nat):List Nat:=digsF B n n
def AllLt (B:Nat) (L:List Nat):Prop:= ∀d∈L,d<B
def Trim (L:List Nat):Prop:= ∀h:L≠ [],L.getLast h≠0
theorem AllLt.cons {B d:Nat} {L:List Nat}:AllLt B (d::L)↔d<B∧AllLt B L:=by
 unfold AllLt;simp
theorem AllLt.nil {B:Nat}:AllLt B []:=by intro d h;cases h
theorem AllLt.append {B:Nat} {L M:List Nat}:AllLt B (L++M)↔AllLt B L∧AllLt B M:=by
 unfold AllLt;constructor
 ·intro h;exact ⟨fun d hd=>h d (by simp [hd]),fun d hd=>h d (by simp [hd])⟩
 ·intro ⟨h1,h2⟩ d hd;rcases List.mem_append.1 hd with h|h
  ·exact h1 d h
  ·exact h2 d h
theorem AllLt.take {B:Nat} {L:List Nat} (h:AllLt B L) (k:Nat):AllLt B (L.take k):=fun d hd=>h d (List.mem_of_mem_take hd)
theorem AllLt.drop {B:Nat} {L:List Nat} (h:AllLt B L) (k:Nat):AllLt B (L.drop k):=fun d hd=>h d (List.mem_of_mem_drop hd)
theorem AllLt.getD {B:Nat} (hB:0<B) {L:List Nat} (h:AllLt B L) (k:Nat):L.getD k 0<B:=by
 by_cases hk:k<L.length
 ·rw [getD_in _ _ hk];exact h _ (List.getElem_mem hk)
 ·rw [getD_out _ _ (by omega)];exact hB
theorem val_append (B:Nat) (L M:List Nat):val B (L++M)=val B L+B^L.length*val B M:=by
 induction L with
 |nil=>simp [val]
 |cons d r ih=>simp only [List.cons_append,val,ih,List.length_cons,Nat.pow_succ,Nat.mul_add];rw [Nat.mul_comm (B^r.length) B,Nat.mul_assoc];omega
theorem val_snoc (B:Nat) (L:List Nat) (d:Nat):val B (L++ [d])=val B L+B^L.length*d:=by
 rw [val_append];simp [val]
theorem val_take_drop (B:Nat) (L:List Nat) (k:Nat) (h:k≤L.length):val B L=val B (L.take k)+B^k*val B (L.drop k):=by
 conv=>lhs;rw [←List.take_append_drop k L]
 rw [val_append,List.length_take,Nat.min_eq_left h]
theorem take_succ_getD (L:List Nat) (k:Nat) (h:k<L.length):L.take (k+1)=L.take k++ [L.getD k 0]:=by
 rw [List.take_succ_eq_append_getElem h,getD_in _ _ h]
theorem val_take_succ (B:Nat) (L:List Nat) (k:Nat) (h:k<L.length):val B (L.take (k+1))=val B (L.take k)+B^k*L.getD k 0:=by
 rw [take_succ_getD L k h,val_snoc,List.length_take,Nat.min_eq_left (by omega)]
theorem drop_getD (L:List Nat) (k:Nat) (h:k<L.length):L.drop k=L.getD k 0::L.drop (k+1):=by
 rw [List.drop_eq_getElem_cons h,getD_in _ _ h]
theorem val_drop (B:Nat) (L:List Nat) (k:Nat) (h:k<L.length):val B (L.drop k)=L.getD k 0+B*val B (L.drop (k+1)):=by
 rw [drop_getD L k h];rfl
theorem val_lt (B:Nat) (L:List Nat) (h:AllLt B L):val B L<B^L.length:=by
 induction L with
 |nil=>simp [val]
 |cons d r ih=>
  have h1:=ih (AllLt.cons.1 h).2
  have h2:=(AllLt.cons.1 h).1
  simp only [val,List.length_cons,Nat.pow_succ]
  have:B*val B r+B≤B*B^r.length:=by
   have:=Nat.mul_le_mul_left B (Nat.succ_le_of_lt h1);rw [Nat.mul_succ] at this;exact this
  rw [Nat.mul_comm (B^r.length) B];omega
theorem val_zeros (B:Nat) (L:List Nat) (h: ∀d∈L,d=0):val B L=0:=by
 induction L with
 |nil=>rfl
 |cons d r ih=>simp only [val];rw [ih (fun x hx=>h x (by simp [hx])),h d (by simp)];simp
theorem val_getLast (B:Nat) (hB:0<B) (L:List Nat) (h:L≠ []) (ht:L.getLast h≠0):B^(L.length-1)≤val B L:=by
 have e:L=L.dropLast++ [L.getLast h]:=(List.dropLast_concat_getLast h).symm
 have hv:val B L=val B L.dropLast+B^(L.length-1)*L.getLast h:=by
  conv=>lhs;rw [e]
  rw [val_snoc,List.length_dropLast]
 rw [hv]
 have:=Nat.mul_le_mul_left (B^(L.length-1)) (Nat.one_le_iff_ne_zero.2 ht)
 omega
theorem digsF_val (B:Nat) (hB:1<B): ∀f n,n≤f→val B (digsF B f n)=n:=by
 intro f
 induction f with
 |zero=>intro n hn;simp [digsF,val];omega
 |succ f ih=>
  intro n hn;simp only [digsF]
  by_cases h:n=0
  ·simp [h,val]
  ·rw [if_neg h];simp only [val]
   have:n/B<n:=Nat.div_lt_self (by omega) hB
   rw [ih (n/B) (by omega),Nat.mod_add_div]
theorem val_digs (B:Nat) (hB:1<B) (n:Nat):val B (digs B n)=n:=digsF_val B hB n n (Nat.le_refl _)
theorem digsF_lt (B:Nat) (hB:1<B): ∀f n,AllLt B (digsF B f n):=by
 intro f
 induction f with
 |zero=>intro n;exact AllLt.nil
 |succ f ih=>
  intro n;simp only [digsF]
  by_cases h:n=0
  ·simp [h,AllLt.nil]
  ·rw [if_neg h];exact AllLt.cons.2 ⟨Nat.mod_lt _ (by omega),ih _⟩
theorem digs_lt (B:Nat) (hB:1<B) (n:Nat):AllLt B (digs B n):=digsF_lt B hB n n
theorem digsF_nil (B:Nat): ∀f n,n≤f→digsF B f n= []→n=0:=by
 intro f n hn h
 cases f with
 |zero=>omega
 |succ f=>simp only [digsF] at h;by_cases hz:n=0
          ·exact hz
          ·rw [if_neg hz] at h;simp at h
theorem digsF_trim (B:Nat) (hB:1<B): ∀f n,n≤f→Trim (digsF B f n):=by
 intro f
 induction f with
 |zero=>intro n _ h;simp [digsF] at h
 |succ f ih=>
  intro n hn h
  simp only [digsF] at h ⊢
  by_cases hz:n=0
  ·simp [hz] at h
  ·simp only [if_neg hz] at h ⊢
   have hlt:n/B<n:=Nat.div_lt_self (by omega) hB
   by_cases hr:digsF B f (n/B)= []
   ·simp only [hr,List.getLast_singleton]
    have:=digsF_nil B f (n/B) (by omega) hr
    have:=Nat.mod_add_div n B
    intro h0;rw [h0] at this;simp only [Nat.zero_add] at this;rename_i hq;rw [hq] at this;omega
   ·rw [List.getLast_cons hr];exact ih (n/B) (by omega) hr
theorem digs_trim (B:Nat) (hB:1<B) (n:Nat):Trim (digs B n):=digsF_trim B hB n n (Nat.le_refl _)
theorem Trim.tail {d:Nat} {L:List Nat} (h:Trim (d::L)):Trim L:=fun hn=>by have:=h (by simp);rwa [List.getLast_cons hn] at this
theorem val_pos (B:Nat) (hB:0<B) (L:List Nat) (h:Trim L) (hn:L≠ []):0<val B L:=by
 have:=val_getLast B hB L hn (h hn)
 have:0<B^(L.length-1):=Nat.pow_pos hB
 omega
theorem val_inj (B:Nat) (hB:1<B): ∀L M:List Nat,AllLt B L→AllLt B M→Trim L→Trim M→val B L=val B M→L=M:=by
 intro L
 induction L with
 |nil=>
  intro M _ _ _ tM e
  cases M with
  |nil=>rfl
  |cons d r=>have:=val_pos B (by omega) _ tM (by simp);rw [←e] at this;simp [val] at this
 |cons c r ih=>
  intro M lL lM tL tM e
  cases M with
  |nil=>have:=val_pos B (by omega) _ tL (by simp);rw [e] at this;simp [val] at this
  |cons d s=>
   simp only [val] at e
   have h1:=(AllLt.cons.1 lL).1
   have h2:=(AllLt.cons.1 lM).1
   have m1:(c+B*val B r)%B=c:=by rw [Nat.add_mul_mod_self_left];exact Nat.mod_eq_of_lt h1
   have m2:(d+B*val B s)%B=d:=by rw [Nat.add_mul_mod_self_left];exact Nat.mod_eq_of_lt h2
   have hcd:c=d:=by rw [←m1,←m2,e]
   have hv:val B r=val B s:=by
    subst hcd
    exact Nat.eq_of_mul_eq_mul_left (by omega) (Nat.add_left_cancel e)
   rw [hcd,ih s (AllLt.cons.1 lL).2 (AllLt.cons.1 lM).2 tL.tail tM.tail hv]
theorem digs_val (B:Nat) (hB:1<B) (L:List Nat) (h:AllLt B L) (t:Trim L):digs B (val B L)=L:=
 val_inj B hB _ _ (digs_lt B hB _) h (digs_trim B hB _) t (val_digs B hB _)
theorem digs_eq_nil (B:Nat) (hB:1<B) (n:Nat):digs B n= []↔n=0:=by
 constructor
 ·intro h;have:=val_digs B hB n;rw [h] at this;simpa [val] using this.symm
 ·intro h;rw [h];rfl
theorem digs_len_pos (B:Nat) (hB:1<B) (n:Nat):0<(digs B n).length↔0<n:=by
 rw [List.length_pos_iff,ne_eq,digs_eq_nil B hB];omega
theorem digs_len_le (B:Nat) (hB:1<B) (n k:Nat):(digs B n).length≤k↔n<B^k:=by
 constructor
 ·intro h
  have h1:=val_lt B _ (digs_lt B hB n)
  rw [val_digs B hB] at h1
  exact Nat.lt_of_lt_of_le h1 (Nat.pow_le_pow_right (by omega) h)
 ·intro h
  by_cases hn:digs B n= []
  ·simp [hn]
  ·have h1:=val_getLast B (by omega) _ hn (digs_trim B hB n hn)
   rw [val_digs B hB] at h1
   have:(digs B n).length-1<k:=(Nat.pow_lt_pow_iff_right hB).1 (Nat.lt_of_le_of_lt h1 h)
   omega
theorem digs_len_mono (B:Nat) (hB:1<B) {m n:Nat} (h:m≤n):(digs B m).length≤(digs B n).length:=
 (digs_len_le B hB m _).2 (Nat.lt_of_le_of_lt h ((digs_len_le B hB n _).1 (Nat.le_refl _)))
theorem digs_cut (B:Nat) (hB:1<B) (L:List Nat) (h:AllLt B L) (k:Nat) (hz: ∀d∈L.drop k,d=0) (ht:Trim (L.take k)):digs B (val B L)=L.take k:=by
 by_cases hk:k≤L.length
 ·rw [val_take_drop B L k hk,val_zeros B _ hz,Nat.mul_zero,Nat.add_zero]
  exact digs_val B hB _ (h.take k) ht
 ·rw [List.take_of_length_le (by omega)] at ht ⊢
  exact digs_val B hB _ h ht
theorem trim_take (L:List Nat) (k:Nat) (hk:k<L.length) (h:L.getD k 0≠0):Trim (L.take (k+1)):=by
 intro hn
 have e:=take_succ_getD L k hk
 have:(L.take (k+1)).getLast hn=L.getD k 0:=by
  simp only [e,List.getLast_append,List.getLast_singleton];simp
 rw [this];exact h
theorem trim_iff (L:List Nat):Trim L↔L.length=0∨L.getD (L.length-1) 0≠0:=by
 constructor
 ·intro h
  by_cases hn:L= []
  ·left;simp [hn]
  ·right
   have:=h hn
   rw [List.getLast_eq_getElem] at this
   rw [getD_in _ _ (by have:=List.length_pos_iff.2 hn;omega)];exact this
 ·rintro (h|h) hn
  ·exact absurd (List.length_eq_zero_iff.1 h) hn
  ·rw [List.getLast_eq_getElem]
   rwa [getD_in _ _ (by have:=List.length_pos_iff.2 hn;omega)] at h
theorem val_lt_of_len (B:Nat) (hB:1<B) (L M:List Nat) (hL:AllLt B L) (tM:Trim M) (h:L.length<M.length):val B L<val B M:=by
 have h1:=val_lt B L hL
 have hM:M≠ []:=by intro e;rw [e] at h;simp at h
 have h2:=val_getLast B (by omega) M hM (tM hM)
 have:=Nat.pow_le_pow_right (n:=B) (by omega) (show L.length≤M.length-1 by omega)
 omega
theorem val_lt_of_top (B:Nat) (L M:List Nat) (k:Nat) (hL:AllLt B L) (hlen:L.length=M.length) (hk:k<L.length)
 (heq:L.drop (k+1)=M.drop (k+1)) (h:L.getD k 0<M.getD k 0):val B L<val B M:=by
 rw [val_take_drop B L k (by omega),val_take_drop B M k (by omega),val_drop B L k hk,val_drop B M k (by omega),heq]
 have h1:=val_lt B (L.take k) (hL.take k)
 rw [List.length_take,Nat.min_eq_left (by omega)] at h1
 have h2:=Nat.mul_le_mul_left (B^k) (show L.getD k 0+B*val B (M.drop (k+1))+1≤M.getD k 0+B*val B (M.drop (k+1)) by omega)
 rw [Nat.mul_succ] at h2
 omega
theorem val_set (B:Nat) (L:List Nat) (i d:Nat) (h:i<L.length):val B (L.set i d)+B^i*L.getD i 0=val B L+B^i*d:=by
 induction L generalizing i with
 |nil=>simp at h
 |cons c r ih=>
  cases i with
  |zero=>simp [val];omega
  |succ i=>
   have e:=ih i (by simpa using h)
   simp only [List.set_cons_succ,val,List.getD_cons_succ,Nat.pow_succ]
   have e2:=congrArg (fun z=>B*z) e
   simp only [Nat.mul_add] at e2
   rw [Nat.mul_comm (B^i) B,Nat.mul_assoc,Nat.mul_assoc];omega
theorem AllLt.set {B:Nat} {L:List Nat} (h:AllLt B L) (i d:Nat) (hd:d<B):AllLt B (L.set i d):=by
 intro x hx
 rcases List.mem_or_eq_of_mem_set hx with h1|h1
 ·exact h x h1
 ·rw [h1];exact hd
theorem lset_ne (L:List Nat) (i j d:Nat) (h:i≠j):(L.set i d).getD j 0=L.getD j 0:=by
 simp [List.getD,List.getElem?_set,h]
theorem lset_eq (L:List Nat) (i d:Nat) (h:i<L.length):(L.set i d).getD i 0=d:=by
 simp [List.getD,h]
theorem getD_replicate (n i:Nat):(List.replicate n 0).getD i 0=0:=by
 by_cases h:i<n
 ·simp [List.getD,h]
 ·rw [getD_out _ _ (by simp;omega)]
theorem val_replicate (B n:Nat):val B (List.replicate n 0)=0:=val_zeros B _ (fun d hd=>(List.mem_replicate.1 hd).2)
theorem AllLt.replicate {B n:Nat} (hB:0<B):AllLt B (List.replicate n 0):=fun d hd=>by rw [(List.mem_replicate.1 hd).2];exact hB
theorem val_drop_set (B:Nat) (L:List Nat) (i d:Nat) (h:i<L.length):val B ((L.set i d).drop i)=d+B*val B (L.drop (i+1)):=by
 rw [val_drop B _ i (by simpa using h),lset_eq L i d h]
 congr 2
 rw [List.drop_set_of_lt (by omega)]
def bl (n:Nat):Nat:=if n=0 then 0 else Nat.log2 n+1
theorem bl_le (n k:Nat):bl n≤k↔n<2^k:=by
 unfold bl
 by_cases h:n=0
 ·simp [h,Nat.two_pow_pos]
 ·rw [if_neg h]
  constructor
  ·intro hk
   exact Nat.lt_of_lt_of_le Nat.lt_log2_self (Nat.pow_le_pow_right (by omega) hk)
  ·intro hk
   exact (Nat.log2_lt h).2 hk
theorem bl_pos (n:Nat):0<bl n↔0<n:=by unfold bl;split<;>omega
theorem lt_bl (n:Nat):n<2^bl n:=(bl_le n _).1 (Nat.le_refl _)
theorem bl_ge (n k:Nat) (h:2^k≤n):k<bl n:=by
 rcases Nat.lt_or_ge k (bl n) with h1|h1
 ·exact h1
 ·have:=(bl_le n k).1 h1;omega
theorem pow_bl (n:Nat) (h:0<n):2^(bl n-1)≤n:=by
 rcases Nat.lt_or_ge n (2^(bl n-1)) with h1|h1
 ·have:=(bl_le n _).2 h1;have:=(bl_pos n).2 h;omega
 ·exact h1
theorem bl_eq (n k:Nat) (h0:2^k≤n) (h1:n<2^(k+1)):bl n=k+1:=by
 have:=bl_ge n k h0;have:=(bl_le n _).2 h1;omega
theorem bl_top (V t k:Nat) (hV:V<2^k) (ht:0<t):bl (V+2^k*t)=k+bl t:=by
 have h1:=pow_bl t ht
 have h2:=lt_bl t
 have h3:=(bl_pos t).2 ht
 have hp:=Nat.two_pow_pos k
 have:=bl_eq (V+2^k*t) (k+(bl t-1)) (by rw [Nat.pow_add];exact Nat.le_trans (Nat.mul_le_mul_left _ h1) (by omega)) (by
  rw [show k+(bl t-1)+1=k+bl t by omega,Nat.pow_add]
  have:=Nat.mul_le_mul_left (2^k) (show t+1≤2^bl t by omega)
  rw [Nat.mul_add] at this;omega)
 omega
theorem bl_half (n:Nat) (h:0<n):bl n=1+bl (n/2):=by
 by_cases h1:n=1
 ·subst h1;decide
 ·have h2:0<n/2:=by omega
  have:=bl_top (n%2) (n/2) 1 (by omega) h2
  rw [show n%2+2^1*(n/2)=n by omega] at this;exact this
end Go.Ulp
