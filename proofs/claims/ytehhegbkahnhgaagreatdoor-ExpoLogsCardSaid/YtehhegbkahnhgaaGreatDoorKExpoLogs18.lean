/- ExpoLogs: what the proof leans on, part 18 (Gp19 Gp20 Gp21 Gp22 Eg1 Gp23 Eg2). -/
import Derived.Test.YtehhegbkahnhgaaGreatDoorKExpoLogs15
import Derived.Test.YtehhegbkahnhgaaGreatDoorKExpoLogs17
set_option linter.unusedVariables false
set_option linter.unusedSimpArgs false
namespace Go.Ulp
def InV (D:Nat) (v:Rat) (x:PP):Prop:=(x.1:Rat)≤(D:Rat)*v∧(D:Rat)*v≤(x.2:Rat)
theorem InV.mul {D:Nat} (hD:0<D) {v w:Rat} {x y m:PP} (hv:0≤v) (hw:0≤w) (hx:InV D v x) (hy:InV D w y) (h1:m.1≤x.1*y.1/D) (h2:cdiv (x.2*y.2) D≤m.2):InV D (v*w) m:=by
 have P:(0:Rat)<(D:Rat):=Rat.natCast_pos.2 hD
 obtain ⟨a,b⟩:=hx
 obtain ⟨c,d⟩:=hy
 have lo:=mul_le_mul2 (Rat.natCast_nonneg (a:=x.1)) a (Rat.natCast_nonneg (a:=y.1)) c
 have hi:=mul_le_mul2 (Rat.mul_nonneg (show (0:Rat)≤D by grind) hv) b (Rat.mul_nonneg (show (0:Rat)≤D by grind) hw) d
 have f1:=fdiv_cast (x.1*y.1) D
 have f2:=cdiv_cast (x.2*y.2) D hD
 rw [cast_mul] at f1 f2
 have g1:=natle h1
 have g2:=natle h2
 generalize ((x.1*y.1/D:Nat):Rat)=X at *
 generalize ((cdiv (x.2*y.2) D:Nat):Rat)=Y at *
 have k1:=Rat.mul_le_mul_of_nonneg_right g1 (show (0:Rat)≤D by grind)
 have k2:=Rat.mul_le_mul_of_nonneg_right g2 (show (0:Rat)≤D by grind)
 constructor
 ·apply Rat.le_of_mul_le_mul_left _ P
  grind
 ·apply Rat.le_of_mul_le_mul_left _ P
  grind
theorem cdiv_up (a b:Nat):cdiv a b≤a/b+1:=by unfold cdiv;split<;>omega
theorem InV.tm {p:Nat} {v w:Rat} {x y:PP} (hv:0≤v) (hw:0≤w) (hx:InV (2^p) v x) (hy:InV (2^p) w y):InV (2^p) (v*w) (tmP x y p):=InV.mul (Nat.two_pow_pos p) hv hw hx hy (Nat.le_refl _) (Nat.le_refl _)
theorem InV.bm {D:Nat} (hD:0<D) {v w:Rat} {x y:PP} (hv:0≤v) (hw:0≤w) (hx:InV D v x) (hy:InV D w y):InV D (v*w) (bMul x y D):=InV.mul hD hv hw hx hy (Nat.le_refl _) (cdiv_up _ _)
theorem InV.ov {D:Nat} {v:Rat} {x m:PP} (n:Nat) (hn:0<n) (hx:InV D v x) (h1:m.1≤x.1/n) (h2:cdiv x.2 n≤m.2):InV D (v/(n:Rat)) m:=by
 have P:(0:Rat)<(n:Rat):=Rat.natCast_pos.2 hn
 obtain ⟨a,b⟩:=hx
 have f1:=fdiv_cast x.1 n
 have f2:=cdiv_cast x.2 n hn
 have g1:=natle h1
 have g2:=natle h2
 generalize ((x.1/n:Nat):Rat)=X at *
 generalize ((cdiv x.2 n:Nat):Rat)=Y at *
 have k1:=Rat.mul_le_mul_of_nonneg_right g1 (show (0:Rat)≤n by grind)
 have k2:=Rat.mul_le_mul_of_nonneg_right g2 (show (0:Rat)≤n by grind)
 have e:(n:Rat)*(v/(n:Rat))=v:=by grind
 constructor
 ·apply Rat.le_of_mul_le_mul_left _ P
  have:(n:Rat)*((D:Rat)*(v/(n:Rat)))=(D:Rat)*v:=by grind
  rw [this];grind
 ·apply Rat.le_of_mul_le_mul_left _ P
  have:(n:Rat)*((D:Rat)*(v/(n:Rat)))=(D:Rat)*v:=by grind
  rw [this];grind
theorem InV.add {D:Nat} {v w:Rat} {x y:PP} (hx:InV D v x) (hy:InV D w y):InV D (v+w) (plP x y):=by
 obtain ⟨a,b⟩:=hx
 obtain ⟨c,d⟩:=hy
 show ((x.1+y.1:Nat):Rat)≤_∧_≤((x.2+y.2:Nat):Rat)
 rw [Rat.natCast_add,Rat.natCast_add]
 constructor<;>grind
def zp (ζ:Rat):Nat→Rat
 |0=>ζ
 |k+1=>zp ζ k*(ζ*ζ)
def sS (ζ:Rat):Nat→Rat
 |0=>ζ
 |k+1=>sS ζ k+zp ζ (k+1)/((2*k+3:Nat):Rat)
theorem zp_nonneg {ζ:Rat} (h:0≤ζ): ∀k,0≤zp ζ k
 |0=>h
 |k+1=>Rat.mul_nonneg (zp_nonneg h k) (Rat.mul_nonneg h h)
theorem zp_pow (ζ:Rat): ∀k,zp ζ k=ζ^(2*k+1)
 |0=>by show ζ=ζ^(0+1);rw [Rat.pow_succ,Rat.pow_zero];grind
 |k+1=>by
  show zp ζ k*(ζ*ζ)=_
  rw [zp_pow ζ k,show 2*(k+1)+1=2*k+1+1+1 by omega,Rat.pow_succ ζ (2*k+1+1),Rat.pow_succ ζ (2*k+1)]
  grind
theorem lnN_sS (ζ:Rat): ∀k,lnN ζ (k+1)=2*sS ζ k:=by
 have e: ∀N,lnN ζ N=sumQ (at' atA ζ) (2*N):=fun N=>by
  unfold lnN
  exact sumQ_congr _ (fun i hi=>by unfold at' atN;rw [if_pos hi])
 intro k
 rw [e]
 induction k with
 |zero=>
  show sumQ (at' atA ζ) 2=2*ζ
  simp only [sumQ]
  unfold at' atA
  rw [if_neg (by omega),if_pos (by omega)]
  have o:((1:Nat):Rat)=1:=rfl
  rw [o,show (1:Nat)=0+1 from rfl,Rat.pow_succ,Rat.pow_zero]
  grind
 |succ k ih=>
  rw [show 2*(k+1+1)=2*(k+1)+1+1 by omega,sumQ_succ,sumQ_succ,ih]
  have a:at' atA ζ (2*(k+1))=0:=by unfold at' atA;rw [if_neg (by omega)];grind
  have b:at' atA ζ (2*(k+1)+1)=2*(zp ζ (k+1)/((2*k+3:Nat):Rat)):=by
   unfold at' atA
   rw [if_pos (by omega),zp_pow,show 2*(k+1)+1=2*k+3 by omega]
   grind
  rw [a,b]
  show _=2*(sS ζ k+zp ζ (k+1)/((2*k+3:Nat):Rat))
  grind
theorem sS_tail {ζ:Rat} (h:0≤ζ) (h2:2*ζ≤1) (k:Nat): ∀j,3*sS ζ (k+j)+zp ζ (k+j)≤3*sS ζ k+zp ζ k
 |0=>by show 3*sS ζ k+zp ζ k≤_;grind
 |j+1=>by
  have ih:=sS_tail h h2 k j
  have n:=zp_nonneg h (k+j)
  have e:sS ζ (k+(j+1))=sS ζ (k+j)+zp ζ (k+j+1)/((2*(k+j)+3:Nat):Rat):=rfl
  have e2:zp ζ (k+(j+1))=zp ζ (k+j)*(ζ*ζ):=rfl
  have e3:zp ζ (k+j+1)=zp ζ (k+j)*(ζ*ζ):=rfl
  rw [e,e2,e3]
  have z2:4*(ζ*ζ)≤1:=by
   have a:=mul_le_mul2 (show 0≤2*ζ by grind) h2 (show 0≤2*ζ by grind) h2
   grind
  have m:=Rat.mul_le_mul_of_nonneg_left z2 n
  have m2:4*(zp ζ (k+j)*(ζ*ζ))≤zp ζ (k+j):=by grind
  have zz:0≤zp ζ (k+j)*(ζ*ζ):=Rat.mul_nonneg n (Rat.mul_nonneg h h)
  have o3:(3:Rat)≤((2*(k+j)+3:Nat):Rat):=natle (show 3≤2*(k+j)+3 by omega)
  generalize ((2*(k+j)+3:Nat):Rat)=d at *
  generalize zp ζ (k+j)*(ζ*ζ)=y at *
  have q:3*(y/d)≤y:=by
   have dp:0<d:=by grind
   have:d*(y/d)=y:=by grind
   have y0:0≤y/d:=div_nonneg' zz dp
   have:=Rat.mul_le_mul_of_nonneg_right o3 y0
   grind
  grind
theorem sS_mono {ζ:Rat} (h:0≤ζ) (k:Nat): ∀j,sS ζ k≤sS ζ (k+j)
 |0=>Rat.le_refl
 |j+1=>by
  have ih:=sS_mono h k j
  have e:sS ζ (k+(j+1))=sS ζ (k+j)+zp ζ (k+j+1)/((2*(k+j)+3:Nat):Rat):=rfl
  have:=div_nonneg' (zp_nonneg h (k+j+1)) (nat_pos (2*(k+j)+2))
  rw [e]
  grind
theorem at_brk {D:Nat} {ζ:Rat} (h:0≤ζ) (h2:2*ζ≤1) {pw sm:PP} (k c:Nat) (hpw:InV D (zp ζ k) pw) (hsm:InV D (sS ζ k) sm) (h3:pw.2≤2) (hc:1≤c): ∀N,k+1≤N→((2*sm.1:Nat):Rat)≤(D:Rat)*lnN ζ N∧(D:Rat)*lnN ζ N≤((2*(sm.2+c):Nat):Rat):=by
 intro N hN
 obtain ⟨j,rfl⟩: ∃j,N=k+j+1:=⟨N-k-1,by omega⟩
 rw [lnN_sS]
 have t:=sS_tail h h2 k j
 have m:=sS_mono h k j
 have z:=zp_nonneg h (k+j)
 obtain ⟨a,b⟩:=hsm
 obtain ⟨-,d⟩:=hpw
 have p2:=natle h3
 have c1:=natle hc
 have D0:(0:Rat)≤(D:Rat):=Rat.natCast_nonneg
 have o2:((2:Nat):Rat)=2:=rfl
 have o1:((1:Nat):Rat)=1:=rfl
 rw [o2] at p2
 rw [o1] at c1
 rw [cast_mul,cast_mul,Rat.natCast_add,o2]
 have k1:=Rat.mul_le_mul_of_nonneg_left m D0
 have k2:=Rat.mul_le_mul_of_nonneg_left (show 3*sS ζ (k+j)≤3*sS ζ k+zp ζ k by grind) D0
 constructor<;>grind
theorem least (P:Nat→Prop) (N:Nat) (h:P N): ∃n,n≤N∧P n∧ ∀i,i<n→ ¬P i:=by
 apply Classical.byContradiction
 intro hno
 have all: ∀n,n≤N→ ∀i,i≤n→ ¬P i:=by
  intro n
  induction n with
  |zero=>
   intro _ i hi hp
   exact hno ⟨0,by omega,by rw [show i=0 by omega] at hp;exact hp,fun i h=>by omega⟩
  |succ n ih=>
   intro hn i hi hp
   by_cases e:i=n+1
   ·exact hno ⟨n+1,hn,by rw [e] at hp;exact hp,fun i h=>ih (by omega) i (by omega)⟩
   ·exact ih (by omega) i (by omega) hp
 exact all N (Nat.le_refl _) N (Nat.le_refl _) h
def apP (z:PP) (p:Nat):Nat→PP
 |0=>z
 |k+1=>tmP (apP z p k) (tmP z z p) p
def asP (z:PP) (p:Nat):Nat→PP
 |0=>z
 |k+1=>plP (asP z p k) (ovP (apP z p (k+1)) (2*k+3))
def rpP (t:PP) (D:Nat):Nat→PP
 |0=>t
 |k+1=>bMul (rpP t D k) (bMul t t D) D
def rsP (t:PP) (D:Nat):Nat→PP
 |0=>bOv t 1
 |k+1=>plP (rsP t D k) (bOv (rpP t D (k+1)) (2*k+3))
theorem apP_in {z:PP} {p:Nat} {ζ:Rat} (h:0≤ζ) (hz:InV (2^p) ζ z): ∀k,InV (2^p) (zp ζ k) (apP z p k)
 |0=>hz
 |k+1=>InV.tm (zp_nonneg h k) (Rat.mul_nonneg h h) (apP_in h hz k) (InV.tm h h hz hz)
theorem asP_in {z:PP} {p:Nat} {ζ:Rat} (h:0≤ζ) (hz:InV (2^p) ζ z): ∀k,InV (2^p) (sS ζ k) (asP z p k)
 |0=>hz
 |k+1=>(asP_in h hz k).add (InV.ov (2*k+3) (by omega) (apP_in h hz (k+1)) (Nat.le_refl _) (Nat.le_refl _))
theorem rpP_in {t:PP} {D:Nat} (hD:0<D) {ζ:Rat} (h:0≤ζ) (ht:InV D ζ t): ∀k,InV D (zp ζ k) (rpP t D k)
 |0=>ht
 |k+1=>InV.bm hD (zp_nonneg h k) (Rat.mul_nonneg h h) (rpP_in hD h ht k) (InV.bm hD h h ht ht)
theorem rsP_in {t:PP} {D:Nat} (hD:0<D) {ζ:Rat} (h:0≤ζ) (ht:InV D ζ t): ∀k,InV D (sS ζ k) (rsP t D k)
 |0=>by
  have a:=InV.ov (m:=bOv t 1) 1 (by omega) ht (Nat.le_refl _) (cdiv_up _ _)
  have e:ζ/((1:Nat):Rat)=ζ:=by
   have:((1:Nat):Rat)=1:=rfl
   rw [this];grind
  rw [e] at a
  exact a
 |k+1=>(rsP_in hD h ht k).add (InV.ov (2*k+3) (by omega) (rpP_in hD h ht (k+1)) (Nat.le_refl _) (cdiv_up _ _))
theorem frB_half (r b D:Nat) (hb:0<b) (h:2*r≤b) (hD:2*(D/2)=D):2*(frB r b D).2≤D:=by
 have:(frB r b D).2≤D/2:=cdiv_le hb (by
  have e:r*D=2*r*(D/2):=by
   conv=>lhs;rw [←hD]
   rw [←Nat.mul_assoc,Nat.mul_comm r 2]
  rw [e,Nat.mul_comm (D/2)]
  exact Nat.mul_le_mul_right _ h)
 omega
theorem tm_wd {x y:PP} {p w v:Nat} (ha:x.1≤x.2) (hb:y.1≤y.2) (wa:x.2≤x.1+w) (wb:y.2≤y.1+v) (ma:x.2≤2^p) (mb:y.2≤2^p):(tmP x y p).2≤(tmP x y p).1+(w+v+2):=by
 have h:=(bMul_wd (D:=2^p) (M:=1) (Nat.two_pow_pos p) ha hb wa wb (by omega) (by omega)).1
 have e1:(tmP x y p).1=(bMul x y (2^p)).1:=rfl
 have e2:(tmP x y p).2≤(bMul x y (2^p)).2:=cdiv_up _ _
 omega
theorem ov_wd {x:PP} {w n:Nat} (hn:0<n) (wa:x.2≤x.1+w):x.2/n+1≤x.1/n+(w+2):=by
 have a:x.2/n≤(x.1+w)/n:=Nat.div_le_div_right wa
 have b:(x.1+w)/n≤x.1/n+(w+1):=by
  apply Nat.le_of_lt_succ
  apply (Nat.div_lt_iff_lt_mul hn).2
  have c:=div_lt_succ x.1 n hn
  have e:(x.1/n+(w+1)).succ*n=(x.1/n+1)*n+(w+1)*n:=by
   rw [←Nat.add_mul];congr 1;omega
  rw [e]
  have:=Nat.le_mul_of_pos_right (w+1) hn
  omega
 omega
theorem apP_top {z:PP} {p:Nat} (hp:2≤p) (hz:2*z.2≤2^p):(tmP z z p).2≤2^(p-2)∧ ∀k,(apP z p k).2≤2^(p-1-k):=by
 have e1:2^p=2^(p-1)*2:=by rw [←Nat.pow_succ];congr 1;omega
 have e2:2^(p-1)=2^(p-2)*2:=by rw [←Nat.pow_succ];congr 1;omega
 have z1:z.2≤2^(p-1):=by omega
 have hs:(tmP z z p).2≤2^(p-2):=by
  show cdiv (z.2*z.2) (2^p)≤_
  refine cdiv_le (Nat.two_pow_pos p) (Nat.le_trans (Nat.mul_le_mul z1 z1) (Nat.le_of_eq ?_))
  rw [←Nat.pow_add,←Nat.pow_add];congr 1;omega
 refine ⟨hs,fun k=>?_⟩
 induction k with
 |zero=>exact z1
 |succ k ih=>
  show cdiv ((apP z p k).2*(tmP z z p).2) (2^p)≤_
  refine cdiv_le (Nat.two_pow_pos p) (Nat.le_trans (Nat.mul_le_mul ih hs) ?_)
  rw [←Nat.pow_add,←Nat.pow_add]
  exact Nat.pow_le_pow_right (by omega) (by omega)
theorem apP_wd {z:PP} {p:Nat} (hp:2≤p) (hz:2*z.2≤2^p) (h01:z.1≤z.2) (hw:z.2≤z.1+1): ∀k,(apP z p k).2≤(apP z p k).1+(6*k+1)∧(apP z p k).1≤(apP z p k).2
 |0=>⟨hw,h01⟩
 |k+1=>by
  obtain ⟨a,b⟩:=apP_wd hp hz h01 hw k
  obtain ⟨s,t⟩:=apP_top hp hz
  have m1:(apP z p k).2≤2^p:=Nat.le_trans (t k) (Nat.pow_le_pow_right (by omega) (by omega))
  have m2:(tmP z z p).2≤2^p:=Nat.le_trans s (Nat.pow_le_pow_right (by omega) (by omega))
  have z2:z.2≤2^p:=by omega
  have q:=tm_wd h01 h01 hw hw z2 z2
  have r:=tm_wd b (tmP_le p h01 h01) a q m1 m2
  refine ⟨?_,tmP_le p b (tmP_le p h01 h01)⟩
  show (tmP (apP z p k) (tmP z z p) p).2≤(tmP (apP z p k) (tmP z z p) p).1+_
  omega
theorem sum_step (k a b c d w:Nat) (h:b≤a+(k+1)*(6*k+10)) (h2:d≤c+(6*(k+1)+1+2)):b+d≤a+c+(k+1+1)*(6*(k+1)+10):=by
 have e:(k+1+1)*(6*(k+1)+10)=(k+1)*(6*k+10)+(k+1)*6+(6*(k+1)+10):=by
  rw [Nat.add_mul (k+1) 1,←Nat.mul_add];congr 1
  ·congr 1;omega
 omega
theorem asP_wd {z:PP} {p:Nat} (hp:2≤p) (hz:2*z.2≤2^p) (h01:z.1≤z.2) (hw:z.2≤z.1+1): ∀k,(asP z p k).2≤(asP z p k).1+(k+1)*(6*k+10)∧(asP z p k).1≤(asP z p k).2
 |0=>⟨by show z.2≤z.1+_;omega,h01⟩
 |k+1=>by
  obtain ⟨a,b⟩:=asP_wd hp hz h01 hw k
  obtain ⟨c,d⟩:=apP_wd hp hz h01 hw (k+1)
  have o:=ov_wd (n:=2*k+3) (by omega) c
  have o2:(ovP (apP z p (k+1)) (2*k+3)).2≤(apP z p (k+1)).2/(2*k+3)+1:=cdiv_up _ _
  have o3:=ovP_le (2*k+3) (by omega) d
  have o4:(ovP (apP z p (k+1)) (2*k+3)).1=(apP z p (k+1)).1/(2*k+3):=rfl
  refine ⟨?_,?_⟩
  ·show (asP z p k).2+(ovP (apP z p (k+1)) (2*k+3)).2≤(asP z p k).1+(ovP (apP z p (k+1)) (2*k+3)).1+_
   exact sum_step k _ _ _ _ 0 a (by omega)
  ·show (asP z p k).1+(ovP (apP z p (k+1)) (2*k+3)).1≤(asP z p k).2+(ovP (apP z p (k+1)) (2*k+3)).2
   omega
theorem apP_end {z:PP} {p:Nat} (hp:2≤p) (hz:2*z.2≤2^p): ∃k,k≤p∧(apP z p k).2≤1∧ ∀i,i<k→ ¬(apP z p i).2≤1:=by
 obtain ⟨k,h1,h2,h3⟩:=least (fun k=>(apP z p k).2≤1) p (by
  have:=(apP_top hp hz).2 p
  rw [show p-1-p=0 by omega] at this
  exact this)
 exact ⟨k,h1,h2,h3⟩
theorem rpP_top {t:PP} {D:Nat} (hD:12≤D) (ht:2*t.2≤D):2*(bMul t t D).2≤D∧ ∀k,(rpP t D (k+1)).2≤(rpP t D k).2/2+1:=by
 have hs:2*(bMul t t D).2≤D:=by
  have a:4*(t.2*t.2/D)≤D:=by
   have h1:t.2*t.2/D*D≤t.2*t.2:=Nat.div_mul_le_self _ _
   have h2:=Nat.mul_le_mul ht ht
   have h3:2*t.2*(2*t.2)=4*(t.2*t.2):=by rw [Nat.mul_mul_mul_comm]
   rw [h3] at h2
   apply Nat.le_of_mul_le_mul_right _ (show 0<D by omega)
   rw [Nat.mul_assoc]
   omega
  show 2*(t.2*t.2/D+1)≤D
  omega
 refine ⟨hs,fun k=>?_⟩
 show (rpP t D k).2*(bMul t t D).2/D+1≤_
 have a:(rpP t D k).2*(bMul t t D).2/D≤(rpP t D k).2/2:=by
  rw [Nat.le_div_iff_mul_le (by omega)]
  apply Nat.le_of_mul_le_mul_right _ (show 0<D by omega)
  have h1:(rpP t D k).2*(bMul t t D).2/D*D≤(rpP t D k).2*(bMul t t D).2:=Nat.div_mul_le_self _ _
  have h2:=Nat.mul_le_mul_left (rpP t D k).2 hs
  have e:(rpP t D k).2*(bMul t t D).2/D*2*D=2*((rpP t D k).2*(bMul t t D).2/D*D):=by
   rw [Nat.mul_right_comm,Nat.mul_comm _ 2]
  have e2:(rpP t D k).2*(2*(bMul t t D).2)=2*((rpP t D k).2*(bMul t t D).2):=Nat.mul_left_comm _ _ _
  rw [e]
  rw [e2] at h2
  omega
 omega
theorem rpP_le {t:PP} {D:Nat} (hD:12≤D) (ht:2*t.2≤D): ∀k,(rpP t D k).2≤D
 |0=>by show t.2≤D;omega
 |k+1=>by
  have:=(rpP_top hD ht).2 k
  have:=rpP_le hD ht k
  omega
theorem rpP_wd {t:PP} {D:Nat} (hD:12≤D) (ht:2*t.2≤D) (h01:t.1≤t.2) (hw:t.2≤t.1+1): ∀k,(rpP t D k).2≤(rpP t D k).1+(6*k+1)∧(rpP t D k).1≤(rpP t D k).2
 |0=>⟨hw,h01⟩
 |k+1=>by
  obtain ⟨a,b⟩:=rpP_wd hD ht h01 hw k
  obtain ⟨s,-⟩:=rpP_top hD ht
  have m1:=rpP_le hD ht k
  have q:=bMul_wd (M:=1) (show 0<D by omega) h01 h01 hw hw (by omega) (by omega)
  have r:=bMul_wd (M:=1) (show 0<D by omega) b q.2 a q.1 (by omega) (by omega)
  refine ⟨?_,r.2⟩
  show (bMul (rpP t D k) (bMul t t D) D).2≤(bMul (rpP t D k) (bMul t t D) D).1+_
  omega
theorem rsP_wd {t:PP} {D:Nat} (hD:12≤D) (ht:2*t.2≤D) (h01:t.1≤t.2) (hw:t.2≤t.1+1): ∀k,(rsP t D k).2≤(rsP t D k).1+(k+1)*(6*k+10)∧(rsP t D k).1≤(rsP t D k).2
 |0=>⟨by show t.2/1+1≤t.1/1+_;rw [Nat.div_one,Nat.div_one];omega,by show t.1/1≤t.2/1+1;rw [Nat.div_one,Nat.div_one];omega⟩
 |k+1=>by
  obtain ⟨a,b⟩:=rsP_wd hD ht h01 hw k
  obtain ⟨c,d⟩:=rpP_wd hD ht h01 hw (k+1)
  have o:=ov_wd (n:=2*k+3) (by omega) c
  have o3:(rpP t D (k+1)).1/(2*k+3)≤(rpP t D (k+1)).2/(2*k+3):=Nat.div_le_div_right d
  refine ⟨?_,?_⟩
  ·show (rsP t D k).2+((rpP t D (k+1)).2/(2*k+3)+1)≤(rsP t D k).1+(rpP t D (k+1)).1/(2*k+3)+_
   exact sum_step k _ _ _ _ 0 a (by omega)
  ·show (rsP t D k).1+(rpP t D (k+1)).1/(2*k+3)≤(rsP t D k).2+((rpP t D (k+1)).2/(2*k+3)+1)
   omega
theorem rpP_end {t:PP} {D K:Nat} (hD:12≤D) (ht:2*t.2≤D) (hK:D≤2^K): ∃k,k≤K+1∧(rpP t D k).2≤2∧ ∀i,i<k→ ¬(rpP t D i).2≤2:=by
 have all: ∀k,k≤K→(rpP t D k).2≤2+2^(K-k):=by
  intro k
  induction k with
  |zero=>intro _;show t.2≤_;rw [Nat.sub_zero];omega
  |succ k ih=>
   intro hk
   have a:=(rpP_top hD ht).2 k
   have b:=ih (by omega)
   have e:2^(K-k)=2^(K-(k+1))*2:=by rw [←Nat.pow_succ];congr 1;omega
   omega
 obtain ⟨k,h1,h2,h3⟩:=least (fun k=>(rpP t D k).2≤2) (K+1) (by
  have a:=all K (Nat.le_refl _)
  rw [Nat.sub_self,Nat.pow_zero] at a
  have b:=(rpP_top hD ht).2 K
  show (rpP t D (K+1)).2≤2
  omega)
 exact ⟨k,h1,h2,h3⟩
theorem dyQ_split (m:Nat) (a b:Int):dyQ m (a+b)=dyQ m a*dyQ 1 b:=by
 have ha:=dyQ_eq m a
 have hb:=dyQ_eq 1 b
 have hab:=dyQ_eq m (a+b)
 have o:((1:Nat):Rat)=1:=rfl
 rw [o] at hb
 have Pa:=pow2_pos (-a).toNat
 have Pb:=pow2_pos (-b).toNat
 have Pc:=pow2_pos (-(a+b)).toNat
 have key:(2:Rat)^(a+b).toNat*(2^(-a).toNat*2^(-b).toNat)=2^a.toNat*2^b.toNat*2^(-(a+b)).toNat:=by
  rw [←pow2_add,←pow2_add,←pow2_add,←pow2_add];congr 1;omega
 generalize dyQ m (a+b)=X at *
 generalize dyQ m a=Y at *
 generalize dyQ 1 b=Z at *
 generalize (2:Rat)^(-a).toNat=A at *
 generalize (2:Rat)^(-b).toNat=B at *
 generalize (2:Rat)^(-(a+b)).toNat=C at *
 generalize (2:Rat)^a.toNat=A' at *
 generalize (2:Rat)^b.toNat=B' at *
 generalize (2:Rat)^(a+b).toNat=C' at *
 have e:C*(A*B)*X=C*(A*B)*(Y*Z):=by
  have l:C*(A*B)*X=(m:Rat)*(C'*(A*B)):=by grind
  have r:C*(A*B)*(Y*Z)=(m:Rat)*(A'*B'*C):=by grind
  rw [l,r,key]
 have P:=Rat.mul_pos Pc (Rat.mul_pos Pa Pb)
 exact Rat.le_antisymm (Rat.le_of_mul_le_mul_left (by rw [e];exact Rat.le_refl) P) (Rat.le_of_mul_le_mul_left (by rw [e];exact Rat.le_refl) P)
def sgS (neg:Bool) (u:Nat→Rat):Nat→Rat:=fun N=>if neg=true then -u N else u N
def zS (n:Int) (u:Nat→Rat):Nat→Rat:=fun N=>(n:Rat)*u N
def addS (u v:Nat→Rat):Nat→Rat:=fun N=>u N+v N
theorem LogTo.zS {u:Nat→Rat} (h:LogTo u 2) (n:Int):LogTo (Go.Ulp.zS n u) (dyQ 1 n):=by
 have o:((1:Nat):Rat)=1:=rfl
 have hn:=dyQ_eq 1 n
 rw [o] at hn
 rcases Int.lt_or_le n 0 with k|k
 ·obtain ⟨j,rfl⟩: ∃j:Nat,n= -(j:Int):=⟨n.natAbs,by omega⟩
  have e1:(-(j:Int)).toNat=0:=by omega
  have e2:(-(-(j:Int))).toNat=j:=by omega
  rw [e1,e2,Rat.pow_zero] at hn
  refine ((h.smul j).neg (E:=dyQ 1 (-(j:Int))) (by rw [hn];grind)).congr (fun N=>?_) rfl
  show ((-(j:Int):Int):Rat)*u N= -((j:Rat)*u N)
  rw [Rat.intCast_neg,Rat.intCast_natCast];grind
 ·obtain ⟨j,rfl⟩:=Int.eq_ofNat_of_zero_le k
  have e1:((j:Int)).toNat=j:=by omega
  have e2:(-(j:Int)).toNat=0:=by omega
  rw [e1,e2,Rat.pow_zero] at hn
  refine (h.smul j).congr (fun N=>?_) (by grind)
  show (((j:Nat):Int):Rat)*u N=_
  rw [Rat.intCast_natCast]
theorem two_a:ExpTo (lnN (1/3)) 2:=lnN_to (1/3) 2 (by grind) (by grind) (by grind)
theorem two_b:ExpTo (addS (lnN (1/7)) (lnN (1/5))) 2:=by
 have a:=lnN_to (1/7) (4/3) (by grind) (by grind) (by grind)
 have b:=lnN_to (1/5) (3/2) (by grind) (by grind) (by grind)
 have c:=a.add b
 have e:(4/3:Rat)*(3/2)=2:=by grind
 rw [e] at c
 exact c
theorem prog_to (m:Nat) (e:Int) (s:Nat) (neg:Bool) (num den:Nat) (hm:0<m) (h1:if neg=true then m<2^s∧2^s≤3*m∧num=2^s-m else 2^s≤m∧m≤3*2^s∧num=m-2^s) (hd:den=m+2^s) (ζ:Rat) (hζ:(den:Rat)*ζ=(num:Rat)):
 0<den∧2*num≤den∧0≤ζ∧2*ζ≤1∧LogTo (addS (sgS neg (lnN ζ)) (zS (e+s) (lnN (1/3)))) (dyQ m e):=by
 have hp:=Nat.two_pow_pos s
 have hden:0<den:=by omega
 have hhalf:2*num≤den:=by
  cases neg
  ·simp only [Bool.false_eq_true,if_false] at h1;omega
  ·simp only [if_true] at h1;omega
 have P:(0:Rat)<(den:Rat):=Rat.natCast_pos.2 hden
 have n0:(0:Rat)≤(num:Rat):=Rat.natCast_nonneg
 have z0:0≤ζ:=Rat.not_lt.1 (fun h=>by
  have:=Rat.mul_lt_mul_of_pos_left h P
  grind)
 have o2:((2:Nat):Rat)=2:=rfl
 have z1:2*ζ≤1:=by
  have:=natle hhalf
  rw [cast_mul,o2] at this
  apply Rat.le_of_mul_le_mul_left _ P
  grind
 refine ⟨hden,hhalf,z0,z1,?_⟩
 have hs:dyQ m e=dyQ m (-(s:Int))*dyQ 1 (e+s):=by rw [←dyQ_split];congr 1;omega
 have hf:=dyQ_eq m (-(s:Int))
 have e1:(-(s:Int)).toNat=0:=by omega
 have e2:(-(-(s:Int))).toNat=s:=by omega
 rw [e1,e2,Rat.pow_zero,Rat.mul_one] at hf
 have Ps:=pow2_pos s
 have hmr:(0:Rat)<(m:Rat):=Rat.natCast_pos.2 hm
 have hdr:(den:Rat)=(m:Rat)+2^s:=by rw [hd,Rat.natCast_add,two_cast]
 have tw:=LogTo.of_exp two_a
 rw [hs]
 generalize dyQ m (-(s:Int))=f at *
 cases neg
 ·simp only [Bool.false_eq_true,if_false] at h1
  have hn:(num:Rat)=(m:Rat)-2^s:=by
   have:((num+2^s:Nat):Rat)=(m:Rat):=by congr 1;omega
   rw [Rat.natCast_add,two_cast] at this
   grind
  refine (LogTo.of_exp (lnN_to ζ f z0 z1 ?_)).add (tw.zS (e+s))
  have k1:(den:Rat)*((1-ζ)*f)=(den:Rat)*(1+ζ):=by grind
  exact Rat.le_antisymm (Rat.le_of_mul_le_mul_left (by rw [k1];exact Rat.le_refl) P) (Rat.le_of_mul_le_mul_left (by rw [k1];exact Rat.le_refl) P)
 ·simp only [if_true] at h1
  have hn:(num:Rat)=2^s-(m:Rat):=by
   have:((num+m:Nat):Rat)=((2^s:Nat):Rat):=by congr 1;omega
   rw [Rat.natCast_add,two_cast] at this
   grind
  have f0:0<f:=Rat.not_le.1 (fun h=>by
   have:=Rat.mul_le_mul_of_nonneg_left h (show (0:Rat)≤2^s by grind)
   grind)
  obtain ⟨F,hF⟩: ∃F:Rat,F=1/f:=⟨_,rfl⟩
  have hFf:F*f=1:=by rw [hF];grind
  have mF:(m:Rat)*F=2^s:=by rw [←hf];grind
  refine ((LogTo.of_exp (lnN_to ζ F z0 z1 ?_)).neg hFf).add (tw.zS (e+s))
  have k1:(den:Rat)*((1-ζ)*F)=(den:Rat)*(1+ζ):=by grind
  exact Rat.le_antisymm (Rat.le_of_mul_le_mul_left (by rw [k1];exact Rat.le_refl) P) (Rat.le_of_mul_le_mul_left (by rw [k1];exact Rat.le_refl) P)
theorem ref_to (m:Nat) (e k:Int) (a b:Nat) (hb:0<b) (hab:(b:Rat)*dyQ m (e-k)=(a:Rat)) (h1:b≤a) (h2:a≤2*b) (ζ:Rat) (hζ:((a+b:Nat):Rat)*ζ=((a-b:Nat):Rat)):
 2*(a-b)≤a+b∧0≤ζ∧2*ζ≤1∧LogTo (addS (lnN ζ) (zS k (addS (lnN (1/7)) (lnN (1/5))))) (dyQ m e):=by
 have P:(0:Rat)<((a+b:Nat):Rat):=Rat.natCast_pos.2 (by omega)
 have n0:(0:Rat)≤((a-b:Nat):Rat):=Rat.natCast_nonneg
 have z0:0≤ζ:=Rat.not_lt.1 (fun h=>by
  have:=Rat.mul_lt_mul_of_pos_left h P
  grind)
 have o2:((2:Nat):Rat)=2:=rfl
 have z1:2*ζ≤1:=by
  have:=natle (show 2*(a-b)≤a+b by omega)
  rw [cast_mul,o2] at this
  apply Rat.le_of_mul_le_mul_left _ P
  grind
 refine ⟨by omega,z0,z1,?_⟩
 have hs:dyQ m e=dyQ m (e-k)*dyQ 1 k:=by rw [←dyQ_split];congr 1;omega
 rw [hs]
 refine (LogTo.of_exp (lnN_to ζ _ z0 z1 ?_)).add ((LogTo.of_exp two_b).zS k)
 generalize dyQ m (e-k)=f at *
 have hs1:((a-b:Nat):Rat)=(a:Rat)-(b:Rat):=by
  have:((a-b+b:Nat):Rat)=(a:Rat):=by congr 1;omega
  rw [Rat.natCast_add] at this
  grind
 have hs2:((a+b:Nat):Rat)=(a:Rat)+(b:Rat):=Rat.natCast_add a b
 have k1:((a+b:Nat):Rat)*((1-ζ)*f)=((a+b:Nat):Rat)*(1+ζ):=by grind
 exact Rat.le_antisymm (Rat.le_of_mul_le_mul_left (by rw [k1];exact Rat.le_refl) P) (Rat.le_of_mul_le_mul_left (by rw [k1];exact Rat.le_refl) P)
def LnB (D:Nat) (v:Nat→Rat) (x:PP):Prop:= ∃N0,∀N,N0≤N→(x.1:Rat)≤(D:Rat)*v N∧(D:Rat)*v N≤(x.2:Rat)
theorem LnB.add {D:Nat} {v w:Nat→Rat} {x y:PP} (h:LnB D v x) (k:LnB D w y):LnB D (addS v w) (plP x y):=by
 obtain ⟨A,h⟩:=h
 obtain ⟨B,k⟩:=k
 refine ⟨A+B,fun N hN=>?_⟩
 obtain ⟨a,b⟩:=h N (by omega)
 obtain ⟨c,d⟩:=k N (by omega)
 show ((x.1+y.1:Nat):Rat)≤(D:Rat)*(v N+w N)∧(D:Rat)*(v N+w N)≤((x.2+y.2:Nat):Rat)
 rw [Rat.natCast_add,Rat.natCast_add]
 constructor<;>grind
def sgP (x:PP) (neg:Bool):Int×Int:=if neg=true then (-(x.2:Int),-(x.1:Int)) else ((x.1:Int),(x.2:Int))
def mlP (M:Nat) (x:PP):PP:=(x.1*M,x.2*M)
def addI (x y:Int×Int):Int×Int:=(x.1+y.1,x.2+y.2)
theorem LnB.sg {D:Nat} {v:Nat→Rat} {x:PP} (h:LnB D v x) (neg:Bool):InS D (sgS neg v) (sgP x neg):=by
 obtain ⟨A,h⟩:=h
 refine ⟨A,fun N hN=>?_⟩
 obtain ⟨a,b⟩:=h N hN
 unfold sgS sgP
 cases neg
 ·simp only [Bool.false_eq_true,if_false]
  rw [Rat.intCast_natCast,Rat.intCast_natCast]
  exact ⟨a,b⟩
 ·simp only [if_true]
  rw [Rat.intCast_neg,Rat.intCast_neg,Rat.intCast_natCast,Rat.intCast_natCast]
  constructor<;>grind
theorem LnB.zs {D:Nat} {v:Nat→Rat} {x:PP} (h:LnB D v x) (n:Int):InS D (zS n v) (sgP (mlP n.natAbs x) (decide (n<0))):=by
 have k:LnB D (fun N=>(n.natAbs:Rat)*v N) (mlP n.natAbs x):=by
  obtain ⟨A,h⟩:=h
  refine ⟨A,fun N hN=>?_⟩
  obtain ⟨a,b⟩:=h N hN
  have m0:=Rat.natCast_nonneg (a:=n.natAbs)
  have a2:=Rat.mul_le_mul_of_nonneg_left a m0
  have b2:=Rat.mul_le_mul_of_nonneg_left b m0
  show ((x.1*n.natAbs:Nat):Rat)≤_∧_≤((x.2*n.natAbs:Nat):Rat)
  rw [cast_mul,cast_mul]
  constructor<;>grind
 have q:=k.sg (decide (n<0))
 obtain ⟨A,q⟩:=q
 refine ⟨A,fun N hN=>?_⟩
 have r:=q N hN
 have e:sgS (decide (n<0)) (fun N=>(n.natAbs:Rat)*v N) N=zS n v N:=by
  unfold sgS zS
  by_cases hn:n<0
  ·rw [decide_eq_true hn,if_pos rfl]
   have:(n:Rat)= -(n.natAbs:Rat):=by
    rw [←Rat.intCast_natCast,←Rat.intCast_neg];congr 1;omega
   rw [this];grind
  ·rw [decide_eq_false hn,if_neg (by simp)]
   have:(n:Rat)=(n.natAbs:Rat):=by
    rw [←Rat.intCast_natCast];congr 1;omega
   rw [this]
 rw [e] at r
 exact r
theorem InS.add {D:Nat} {v w:Nat→Rat} {x y:Int×Int} (h:InS D v x) (k:InS D w y):InS D (addS v w) (addI x y):=by
 obtain ⟨A,h⟩:=h
 obtain ⟨B,k⟩:=k
 refine ⟨A+B,fun N hN=>?_⟩
 obtain ⟨a,b⟩:=h N (by omega)
 obtain ⟨c,d⟩:=k N (by omega)
 show ((x.1+y.1:Int):Rat)≤(D:Rat)*(v N+w N)∧(D:Rat)*(v N+w N)≤((x.2+y.2:Int):Rat)
 rw [Rat.intCast_add,Rat.intCast_add]
 constructor<;>grind
def Wd (x:Int×Int) (w:Nat):Prop:=x.1≤x.2∧x.2≤x.1+(w:Int)
theorem sgP_wd {x:PP} {w:Nat} (h:x.1≤x.2) (k:x.2≤x.1+w) (neg:Bool):Wd (sgP x neg) w:=by
 unfold sgP Wd
 cases neg
 ·simp only [Bool.false_eq_true,if_false];omega
 ·simp only [if_true];omega
theorem mlP_wd {x:PP} {w:Nat} (h:x.1≤x.2) (k:x.2≤x.1+w) (M:Nat):(mlP M x).1≤(mlP M x).2∧(mlP M x).2≤(mlP M x).1+w*M:=by
 refine ⟨Nat.mul_le_mul_right _ h,?_⟩
 show x.2*M≤x.1*M+w*M
 rw [←Nat.add_mul]
 exact Nat.mul_le_mul_right _ k
theorem addI_wd {x y:Int×Int} {w v:Nat} (h:Wd x w) (k:Wd y v):Wd (addI x y) (w+v):=by
 obtain ⟨a,b⟩:=h
 obtain ⟨c,d⟩:=k
 unfold addI Wd
 simp only
 omega
def LnOK (m:Nat) (e:Int) (D W:Nat) (x:Int×Int):Prop:= ∃u,LogTo u (dyQ m e)∧InS D u x∧Wd x (2^W)
theorem LnOK.uniq {m:Nat} {e:Int} {D D' W W':Nat} {x y:Int×Int} (h:LnOK m e D W x) (k:LnOK m e D' W' y) (hD:0<D) (hD':0<D') (pl:Nat) (z w:Int) (h1:x.1*((2^pl:Nat):Int)/(D:Int)=z) (h2:x.2*((2^pl:Nat):Int)/(D:Int)=z) (k1:y.1*((2^pl:Nat):Int)/(D':Int)=w) (k2:y.2*((2^pl:Nat):Int)/(D':Int)=w):z=w:=by
 obtain ⟨u,a,b,-⟩:=h
 obtain ⟨v,c,d,-⟩:=k
 exact lf_uniq (a.uniq c) (lf_of hD b pl z h1 h2) (lf_of hD' d pl w k1 k2)
theorem LnOK.ends {m:Nat} {e:Int} {D W:Nat} {x:Int×Int} (h:LnOK m e D W x) (hD:0<D) (h0:0<m) (hm:m<2^1280) (he: -3000≤e∧e≤3000) (h1:dyQ m e≠1) (pl g:Nat) (hpl:pl≤1300) (hg:g=GG+4300) (hp:2^(W+g)≤D):x.1*((2^pl:Nat):Int)/(D:Int)=x.2*((2^pl:Nat):Int)/(D:Int):=by
 obtain ⟨u,a,b,c,d⟩:=h
 exact sep_lf hD (log_far m e a h0 hm he h1 pl g hpl hg) b c W d hp
def atP (z:PP) (p k:Nat):PP:=(2*(asP z p k).1,2*((asP z p k).2+4))
def rtP (t:PP) (D k:Nat):PP:=(2*(rsP t D k).1,2*((rsP t D k).2+9))
theorem InV.frB {r b D:Nat} (hb:0<b) {ζ:Rat} (h:(b:Rat)*ζ=(r:Rat)):InV D ζ (Go.Ulp.frB r b D):=frB_in r b D hb ζ h
theorem atP_ok {z:PP} {p k:Nat} {ζ:Rat} (h:0≤ζ) (h2:2*ζ≤1) (hz:InV (2^p) ζ z) (he:(apP z p k).2≤1):LnB (2^p) (lnN ζ) (atP z p k):=
 ⟨k+1,at_brk h h2 k 4 (apP_in h hz k) (asP_in h hz k) (by omega) (by omega)⟩
theorem rtP_ok {t:PP} {D k:Nat} (hD:0<D) {ζ:Rat} (h:0≤ζ) (h2:2*ζ≤1) (hz:InV D ζ t) (he:(rpP t D k).2≤2):LnB D (lnN ζ) (rtP t D k):=
 ⟨k+1,at_brk h h2 k 9 (rpP_in hD h hz k) (rsP_in hD h hz k) he (by omega)⟩
theorem wd_num (k w:Nat) (hk:k≤2^36) (hw:w=(k+1)*(6*k+10)):2*w+18≤2^80:=by
 have a:(k+1)*(6*k+10)≤(2^36+1)*(6*2^36+10):=Nat.mul_le_mul (by omega) (by omega)
 have b:2*((2^36+1)*(6*2^36+10))+18≤2^80:=by decide
 omega
theorem atP_wd {z:PP} {p k:Nat} (hp:2≤p) (hz:2*z.2≤2^p) (h01:z.1≤z.2) (hw:z.2≤z.1+1) (hk:k≤2^36):(atP z p k).1≤(atP z p k).2∧(atP z p k).2≤(atP z p k).1+2^80:=by
 obtain ⟨a,b⟩:=asP_wd hp hz h01 hw k
 have c:=wd_num k _ hk rfl
 show 2*(asP z p k).1≤2*((asP z p k).2+4)∧2*((asP z p k).2+4)≤2*(asP z p k).1+_
 omega
theorem rtP_wd {t:PP} {D k:Nat} (hD:12≤D) (ht:2*t.2≤D) (h01:t.1≤t.2) (hw:t.2≤t.1+1) (hk:k≤2^36):(rtP t D k).1≤(rtP t D k).2∧(rtP t D k).2≤(rtP t D k).1+2^80:=by
 obtain ⟨a,b⟩:=rsP_wd hD ht h01 hw k
 have c:=wd_num k _ hk rfl
 show 2*(rsP t D k).1≤2*((rsP t D k).2+9)∧2*((rsP t D k).2+9)≤2*(rsP t D k).1+_
 omega
theorem frB_w (r b D:Nat):(frB r b D).1≤(frB r b D).2∧(frB r b D).2≤(frB r b D).1+1:=by
 constructor
 ·show r*D/b≤cdiv (r*D) b
  unfold cdiv;split<;>omega
 ·show cdiv (r*D) b≤r*D/b+1
  exact cdiv_up _ _
theorem wd_all (M:Nat) (hM:M≤8192):2^80+2^81*M≤2^100:=by
 have a:2^81*M≤2^81*8192:=Nat.mul_le_mul_left _ hM
 have b:2^80+2^81*8192≤2^100:=by decide
 omega
theorem Wd.mono {x:Int×Int} {w v:Nat} (h:Wd x w) (k:w≤v):Wd x v:=by obtain ⟨a,b⟩:=h;exact ⟨a,by omega⟩
theorem prog_ok (m:Nat) (e:Int) (s:Nat) (neg:Bool) (num den p kA kT:Nat) (hm:0<m) (h1:if neg=true then m<2^s∧2^s≤3*m∧num=2^s-m else 2^s≤m∧m≤3*2^s∧num=m-2^s) (hd:den=m+2^s) (hp:2≤p) (hn:(e+s).natAbs≤8000)
 (eA:(apP (frB num den (2^p)) p kA).2≤1) (eT:(apP (frB 1 3 (2^p)) p kT).2≤1) (lA:kA≤2^36) (lT:kT≤2^36):
 LnOK m e (2^p) 100 (addI (sgP (atP (frB num den (2^p)) p kA) neg) (sgP (mlP (e+s).natAbs (atP (frB 1 3 (2^p)) p kT)) (decide (e+s<0)))):=by
 have P:(0:Rat)<(den:Rat):=Rat.natCast_pos.2 (by have:=Nat.two_pow_pos s;omega)
 obtain ⟨hden,hhalf,z0,z1,hlog⟩:=prog_to m e s neg num den hm h1 hd ((num:Rat)/(den:Rat)) (by grind)
 have even:2*(2^p/2)=2^p:=by
  have:2^p=2^(p-1)*2:=by rw [←Nat.pow_succ];congr 1;omega
  omega
 obtain ⟨a1,a2⟩:=frB_w num den (2^p)
 obtain ⟨b1,b2⟩:=frB_w 1 3 (2^p)
 have ha:=frB_half num den (2^p) hden hhalf even
 have hb:=frB_half 1 3 (2^p) (by omega) (by omega) even
 obtain ⟨wa,wb⟩:=atP_wd hp ha a1 a2 lA
 obtain ⟨wc,wd⟩:=atP_wd hp hb b1 b2 lT
 obtain ⟨me,mf⟩:=mlP_wd wc wd (e+s).natAbs
 have i1:=(atP_ok z0 z1 (InV.frB hden (ζ:=(num:Rat)/(den:Rat)) (by grind)) eA).sg neg
 have i2:=(atP_ok (p:=p) (show (0:Rat)≤1/3 by grind) (by grind) (InV.frB (r:=1) (b:=3) (by omega) (by
  have o3:((3:Nat):Rat)=3:=rfl
  have o1:((1:Nat):Rat)=1:=rfl
  rw [o3,o1];grind)) eT).zs (e+s)
 refine ⟨_,hlog,i1.add i2,(addI_wd (sgP_wd wa wb neg) (sgP_wd me mf _)).mono ?_⟩
 have:=wd_all (e+s).natAbs (by omega)
 have e81:2^81=2^80*2:=by rw [←Nat.pow_succ]
 have:2^80*(e+s).natAbs≤2^81*(e+s).natAbs:=Nat.mul_le_mul_right _ (by omega)
 omega
theorem ref_ok (m:Nat) (e k:Int) (a b D kA k1 k2:Nat) (hb:0<b) (hab:(b:Rat)*dyQ m (e-k)=(a:Rat)) (h1:b≤a) (h2:a≤2*b) (hD:12≤D) (even:2*(D/2)=D) (hk:k.natAbs≤8000)
 (eA:(rpP (frB (a-b) (a+b) D) D kA).2≤2) (e1:(rpP (frB 1 7 D) D k1).2≤2) (e2:(rpP (frB 1 5 D) D k2).2≤2) (lA:kA≤2^36) (l1:k1≤2^36) (l2:k2≤2^36):
 LnOK m e D 100 (addI (sgP (rtP (frB (a-b) (a+b) D) D kA) false) (sgP (mlP k.natAbs (plP (rtP (frB 1 7 D) D k1) (rtP (frB 1 5 D) D k2))) (decide (k<0)))):=by
 have P:(0:Rat)<((a+b:Nat):Rat):=Rat.natCast_pos.2 (by omega)
 obtain ⟨hhalf,z0,z1,hlog⟩:=ref_to m e k a b hb hab h1 h2 (((a-b:Nat):Rat)/((a+b:Nat):Rat)) (by grind)
 obtain ⟨a1,a2⟩:=frB_w (a-b) (a+b) D
 obtain ⟨b1,b2⟩:=frB_w 1 7 D
 obtain ⟨c1,c2⟩:=frB_w 1 5 D
 have ha:=frB_half (a-b) (a+b) D (by omega) hhalf even
 have hb7:=frB_half 1 7 D (by omega) (by omega) even
 have hb5:=frB_half 1 5 D (by omega) (by omega) even
 obtain ⟨wa,wb⟩:=rtP_wd hD ha a1 a2 lA
 obtain ⟨wc,wd⟩:=rtP_wd hD hb7 b1 b2 l1
 obtain ⟨we,wf⟩:=rtP_wd hD hb5 c1 c2 l2
 have i1:=(rtP_ok (show 0<D by omega) z0 z1 (InV.frB (r:=a-b) (b:=a+b) (by omega) (by grind)) eA).sg false
 have o1:((1:Nat):Rat)=1:=rfl
 have i7:=rtP_ok (D:=D) (k:=k1) (show 0<D by omega) (show (0:Rat)≤1/7 by grind) (by grind) (InV.frB (r:=1) (b:=7) (by omega) (by
  have o3:((7:Nat):Rat)=7:=rfl
  rw [o3,o1];grind)) e1
 have i5:=rtP_ok (D:=D) (k:=k2) (show 0<D by omega) (show (0:Rat)≤1/5 by grind) (by grind) (InV.frB (r:=1) (b:=5) (by omega) (by
  have o3:((5:Nat):Rat)=5:=rfl
  rw [o3,o1];grind)) e2
 have i2:=(i7.add i5).zs k
 have e81:2^81=2^80*2:=by rw [←Nat.pow_succ]
 have wt1:(plP (rtP (frB 1 7 D) D k1) (rtP (frB 1 5 D) D k2)).1≤(plP (rtP (frB 1 7 D) D k1) (rtP (frB 1 5 D) D k2)).2:=Nat.add_le_add wc we
 have wt2:(plP (rtP (frB 1 7 D) D k1) (rtP (frB 1 5 D) D k2)).2≤(plP (rtP (frB 1 7 D) D k1) (rtP (frB 1 5 D) D k2)).1+2^81:=by
  show (rtP (frB 1 7 D) D k1).2+(rtP (frB 1 5 D) D k2).2≤(rtP (frB 1 7 D) D k1).1+(rtP (frB 1 5 D) D k2).1+_
  omega
 obtain ⟨me,mf⟩:=mlP_wd wt1 wt2 k.natAbs
 refine ⟨_,hlog.congr (fun N=>?_) rfl,i1.add i2,(addI_wd (sgP_wd wa wb false) (sgP_wd me mf _)).mono (wd_all _ (by omega))⟩
 show (if false=true then _ else _)+_=_+_
 rw [if_neg (by simp)]
open Go.RowKit
theorem cmpI_pos_mul (a b c:Int) (hc:0<c):cmpI (c*a) (c*b)=cmpI a b:=by
 have h1:c*a<c*b↔a<b:=⟨fun h=>Int.lt_of_mul_lt_mul_left h (Int.le_of_lt hc),fun h=>Int.mul_lt_mul_of_pos_left h hc⟩
 have h2:c*b<c*a↔b<a:=⟨fun h=>Int.lt_of_mul_lt_mul_left h (Int.le_of_lt hc),fun h=>Int.mul_lt_mul_of_pos_left h hc⟩
 unfold cmpI
 generalize c*a=u at *
 generalize c*b=v at *
 split<;>split<;>(try split)<;>(try split)<;>omega
theorem pw_1075:pw 1075=pw 1074*2:=by
 rw [show (1075:Nat)=1074+1 from rfl,pw_add,show pw 1=2 by decide]
theorem mul_1075 (x:Int):x*pw 1075=2*(x*pw 1074):=by
 rw [pw_1075]
 generalize pw 1074=P
 rw [←Int.mul_assoc,Int.mul_comm]
theorem st_mono {x y:Int} {D E:Nat} (hD:0<D) (hE:0<E) (h:x*(E:Int)≤y*(D:Int)):st x D≤st y E:=by
 rcases Int.lt_or_le (st y E) (st x D) with h9|h9
 ·exfalso
  have hd:(0:Int)<(D:Int):=by omega
  have he:(0:Int)<(E:Int):=by omega
  have hP:=pw_pos 1075
  obtain ⟨q,hq⟩: ∃q,q=x*pw 1075/(D:Int):=⟨_,rfl⟩
  have hs:st x D=2*q∧q*(D:Int)=x*pw 1075∨st x D=2*q+1∧q*(D:Int)<x*pw 1075:=by
   have e:=Int.emod_add_mul_ediv (x*pw 1075) (D:Int)
   have l0:=Int.emod_nonneg (x*pw 1075) (show (D:Int)≠0 by omega)
   rw [←hq,Int.mul_comm (D:Int) q] at e
   unfold st
   rw [←hq]
   split
   ·exact .inl ⟨by omega,by omega⟩
   ·exact .inr ⟨rfl,by omega⟩
  have hy:y*pw 1075≤q*(E:Int)∧(st x D=2*q→y*pw 1075<q*(E:Int)):=by
   have c:=st_cmp y q E hE
   constructor
   ·have: ¬cmpI (2*q) (st y E)<0:=fun h=>by have:=(cmpI_lt _ _).1 h;omega
    rw [c] at this
    exact Int.not_lt.1 fun h=>this ((cmpI_lt _ _).2 h)
   ·intro h1
    have:0<cmpI (2*q) (st y E):=(cmpI_gt _ _).2 (by omega)
    rw [c] at this
    exact (cmpI_gt _ _).1 this
  have hX:x*pw 1075*(E:Int)≤y*pw 1075*(D:Int):=by
   have:=Int.mul_le_mul_of_nonneg_right h (Int.le_of_lt hP)
   rw [Int.mul_assoc,Int.mul_comm (pw 1075),←Int.mul_assoc,Int.mul_assoc y,Int.mul_comm (pw 1075),←Int.mul_assoc]
   exact this
  generalize x*pw 1075=X at *
  generalize y*pw 1075=Y at *
  rcases hs with ⟨s1,s2⟩|⟨s1,s2⟩
  ·have h3:=hy.2 s1
   have h4:=Int.mul_lt_mul_of_pos_right h3 hd
   rw [←s2] at hX
   rw [Int.mul_assoc,Int.mul_comm (E:Int),←Int.mul_assoc] at h4
   omega
  ·have h4:=Int.mul_le_mul_of_nonneg_right hy.1 (Int.le_of_lt hd)
   have h5:=Int.mul_lt_mul_of_pos_right s2 he
   rw [Int.mul_assoc,Int.mul_comm (E:Int),←Int.mul_assoc] at h4
   omega
 ·exact h9
theorem prog_st (x:Int) (p:Nat) (mode:Int) (m0:0≤mode) (m1:mode≤4):Rnd 2 (st x (2^p)) mode (rX (nrm x (-(p:Int))) mode) (rC (nrm x (-(p:Int))) mode):=by
 obtain ⟨D,hD⟩: ∃D,D=nrm x (-(p:Int)):=⟨_,rfl⟩
 obtain ⟨k,a1,a2⟩:=nrm_rep x (-(p:Int))
 rw [←hD] at a1 a2 ⊢
 have h:=number_rnd (decide (D.1<0)) D.1.natAbs D.2 mode p m0 m1 (fun h=>decide_eq_false (by omega)) (by
  by_cases h0:x=0
  ·rw [hD,h0];show (0:Int)≤0+1074+(p:Int);omega
  ·have:=a2 h0;omega)
 have e:sg (decide (D.1<0)) ((D.1.natAbs*2^(D.2+1074+(p:Int)).toNat:Nat):Int)=x*pw 1074:=by
  rw [Int.natCast_mul,←pw_nat]
  by_cases h0:x=0
  ·have hd:D.1=0:=by rw [hD,h0];rfl
   rw [hd,h0]
   show sg _ (0*_)=0*_
   rw [Int.zero_mul,Int.zero_mul]
   unfold sg;split<;>rfl
  ·have e2:=a2 h0
   have e3:(D.2+1074+(p:Int)).toNat=k+1074:=by omega
   rw [e3,a1,Int.mul_assoc,←pw_add]
   unfold sg
   by_cases hn:D.1<0
   ·rw [decide_eq_true hn,if_pos rfl,←Int.neg_mul];congr 1;omega
   ·rw [decide_eq_false hn,if_neg (by decide)];congr 1;omega
 rw [e] at h
 have hP:(0:Nat)<2^p:=Nat.two_pow_pos p
 refine h.same (fun r=>?_) (fun r=>?_) ?_
 ·rw [cR_st x _ hP,mul_1075]
  unfold cR rT
  rw [pw_nat p]
  generalize x*pw 1074=Y
  rw [Int.mul_assoc 2,cmpI_pos_mul _ _ 2 (by omega)]
 ·rw [cM_st x _ hP,mul_1075]
  unfold cM rT
  rw [cmpI_swap,pw_nat p]
  generalize x*pw 1074=Y
  rw [←Int.add_mul]
 ·rw [st_sign x _ hP]
  have p0:=pw_pos 1074
  have:=cmpI_pos_mul x 0 (pw 1074) p0
  rw [Int.mul_zero,Int.mul_comm] at this
  exact this
theorem rnd_odd {V mode x:Int} {ch:Bool} (h:Rnd 2 V mode x ch) (hV:V%2=1):ch=true:=by
 obtain ⟨l,hl,e⟩:=h
 have f:=congrArg Prod.snd e
 simp only at f
 rw [f]
 unfold ansR
 rw [if_neg]
 ·split<;>rfl
 ·rintro ⟨-,h2⟩
  unfold cR rT at h2
  have:=(cmpI_eq_zero _ _).1 h2
  rw [show pw 2=4 by decide] at this
  omega
theorem rnd_two {V1 V2 U1 U2 mode x y:Int} {a1 a2 b1 b2:Bool} (h1:Rnd 2 V1 mode x a1) (h2:Rnd 2 V2 mode x a2) (k1:Rnd 2 U1 mode y b1) (k2:Rnd 2 U2 mode y b2) (a:V1≤U2) (b:U1≤V2) (n1:V1≠0) (n2:V2≠0) (n3:U1≠0) (n4:U2≠0):x=y:=by
 rcases Int.le_total V1 U1 with h|h
 ·exact (rnd_mid h1 h2 k1 h b n1 n2).symm
 ·exact rnd_mid k1 k2 h1 h a n3 n4
theorem read_st (A B:Nat) (hA:0<A) (hB:0<B) (neg:Bool) (mode:Int) (m0:0≤mode) (m1:mode≤4) (l:Nat) (l1:(l:Int)<9218868437227405312) (l2:rdC 1074 A B l≤0) (l3:(l:Int)+1=9218868437227405312∨0<rdC 1074 A B ((l:Int)+1)):
 ∃ch,Rnd 2 (sg neg (st (A:Int) B)) mode ((rdA 1074 A B (if neg=true then swM mode else mode) l).1+sgb neg) ch:=by
 have hpos:0<st (A:Int) B:=by
  have e:=st_sign (A:Int) B hB
  have:0<cmpI (st (A:Int) B) 0:=by rw [e];exact (cmpI_gt _ _).2 (by omega)
  exact (cmpI_gt _ _).1 this
 obtain ⟨M,hM⟩:=Int.eq_ofNat_of_zero_le (Int.le_of_lt hpos)
 have hM0:0<M:=by rw [hM] at hpos;exact Int.ofNat_lt.1 hpos
 have e0:(-1076+1074+((2:Nat):Int)).toNat=0:=by decide
 have eM:((M*2^(-1076+1074+((2:Nat):Int)).toNat:Nat):Int)=st (A:Int) B:=by rw [e0,Nat.pow_zero,Nat.mul_one,hM]
 have SC:SameC 2 ((M*2^(-1076+1074+((2:Nat):Int)).toNat:Nat):Int) 1074 A B:=by
  rw [eM]
  constructor
  ·intro r _
   rw [cR_st _ _ hB,mul_1075]
   unfold rdC
   generalize (A:Int)*pw 1074=Y
   rw [Int.mul_assoc 2,cmpI_pos_mul _ _ 2 (by omega)]
  ·intro r _
   rw [cM_st _ _ hB,mul_1075]
   unfold rdM
   generalize (A:Int)*pw 1074=Y
   rfl
 have r:=read_sg neg M (-1076) mode 1074 A B 2 l m0 m1 hM0 (by decide) SC l1 l2 l3
 have n:=number_rnd neg M (-1076) mode 2 m0 m1 (fun h=>by omega) (by decide)
 rw [eM,r.1] at n
 exact ⟨_,n⟩
theorem st_neg (x:Int) (D:Nat) (hD:0<D):st (-x) D= -st x D:=by
 have key: ∀G:Int,cmpI (2*G) (st (-x) D)=cmpI (2*G) (-st x D):=by
  intro G
  have h1:=st_cmp (-x) G D hD
  have h2:=st_cmp x (-G) D hD
  rw [h1]
  have e1:cmpI (2*G) (-st x D)= -cmpI (2 * -G) (st x D):=by
   rw [←cmpI_neg_neg];congr 1;omega
  rw [e1,h2,←cmpI_neg_neg]
  congr 1
  ·rw [←Int.neg_mul,Int.neg_neg]
  ·rw [Int.neg_mul]
 have a:=key ((st (-x) D)/2)
 have b:=key ((-st x D)/2)
 generalize st (-x) D=u at *
 generalize -st x D=v at *
 unfold cmpI at a b
 have c:=key (u/2)
 have c':=key (v/2)
 have d:=key (u/2+1)
 have d':=key (v/2+1)
 unfold cmpI at c d c' d'
 split at a<;>split at a<;>(try split at a)<;>(try split at a)<;>split at b<;>split at b<;>(try split at b)<;>(try split at b)<;>omega
theorem asP_top {z:PP} {p:Nat} (hp:2≤p) (hz:2*z.2≤2^p): ∀k,(asP z p k).2≤(k+1)*2^p
 |0=>by show z.2≤_;omega
 |k+1=>by
  have a:=asP_top hp hz k
  have b:=(apP_top hp hz).2 (k+1)
  have c:(apP z p (k+1)).2≤2^p:=Nat.le_trans b (Nat.pow_le_pow_right (by omega) (by omega))
  have d:cdiv (apP z p (k+1)).2 (2*k+3)≤(apP z p (k+1)).2:=cdiv_self_le _ _ (by omega)
  have e:(k+1+1)*2^p=(k+1)*2^p+2^p:=Nat.succ_mul _ _
  show (asP z p k).2+cdiv (apP z p (k+1)).2 (2*k+3)≤_
  omega
structure AtOK (num den p k:Nat):Prop where
 hd:0<den
 h2:2*num≤den
 ln:num≤2^9000
 ld:den≤2^9000
 p0:20≤p
 p1:p≤34359738368
 k1:k≤p
 e1:(apP (frB num den (2^p)) p k).2≤1
 e2: ∀i,i<k→ ¬(apP (frB num den (2^p)) p i).2≤1
theorem even_two {p:Nat} (hp:1≤p):2*(2^p/2)=2^p:=by
 have:2^p=2^(p-1)*2:=by rw [←Nat.pow_succ];congr 1;omega
 omega
theorem atOK_ex (num den p:Nat) (hd:0<den) (h2:2*num≤den) (ln:num≤2^9000) (ld:den≤2^9000) (p0:20≤p) (p1:p≤34359738368): ∃k,AtOK num den p k:=by
 obtain ⟨k,a,b,c⟩:=apP_end (z:=frB num den (2^p)) (show 2≤p by omega) (frB_half num den _ hd h2 (even_two (by omega)))
 exact ⟨k,hd,h2,ln,ld,p0,p1,a,b,c⟩
theorem AtOK.half {num den p k:Nat} (h:AtOK num den p k):2*(frB num den (2^p)).2≤2^p:=frB_half num den _ h.hd h.h2 (even_two (by have:=h.p0;omega))
theorem AtOK.pw {num den p k:Nat} (h:AtOK num den p k) (i:Nat):(apP (frB num den (2^p)) p i).1≤2^p∧(apP (frB num den (2^p)) p i).2≤2^p:=by
 have p0:=h.p0
 obtain ⟨a,b⟩:=frB_w num den (2^p)
 have c:=(apP_wd (show 2≤p by omega) h.half a b i).2
 have d:=(apP_top (show 2≤p by omega) h.half).2 i
 have e:(apP (frB num den (2^p)) p i).2≤2^p:=Nat.le_trans d (Nat.pow_le_pow_right (by omega) (by omega))
 omega
theorem AtOK.sq {num den p k:Nat} (h:AtOK num den p k):(tmP (frB num den (2^p)) (frB num den (2^p)) p).1≤2^p∧(tmP (frB num den (2^p)) (frB num den (2^p)) p).2≤2^p:=by
 have p0:=h.p0
 obtain ⟨a,b⟩:=frB_w num den (2^p)
 have c:=tmP_le p a a
 have d:=(apP_top (show 2≤p by omega) h.half).1
 have e:(tmP (frB num den (2^p)) (frB num den (2^p)) p).2≤2^p:=Nat.le_trans d (Nat.pow_le_pow_right (by omega) (by omega))
 omega
theorem AtOK.sm {num den p k:Nat} (h:AtOK num den p k) (i:Nat) (hi:i≤p):(asP (frB num den (2^p)) p i).1≤2^(p+36)∧(asP (frB num den (2^p)) p i).2≤2^(p+36):=by
 have p0:=h.p0
 have p1:=h.p1
 obtain ⟨a,b⟩:=frB_w num den (2^p)
 have c:=(asP_wd (show 2≤p by omega) h.half a b i).2
 have d:=asP_top (show 2≤p by omega) h.half i
 have e:(i+1)*2^p≤2^36*2^p:=Nat.mul_le_mul_right _ (Nat.le_trans (show i+1≤68719476736 by omega) (by decide))
 have f:2^36*2^p=2^(p+36):=by rw [←Nat.pow_add];congr 1;omega
 omega
theorem AtOK.res {num den p k:Nat} (h:AtOK num den p k):(atP (frB num den (2^p)) p k).1≤2^(p+40)∧(atP (frB num den (2^p)) p k).2≤2^(p+40):=by
 obtain ⟨a,b⟩:=h.sm k h.k1
 have e:2^(p+40)=2^(p+36)*16:=by rw [show p+40=p+36+4 by omega,Nat.pow_add]
 have f:8≤2^(p+36):=Nat.le_trans (show 8≤2^3 by decide) (Nat.pow_le_pow_right (by omega) (by omega))
 show 2*(asP (frB num den (2^p)) p k).1≤_∧2*((asP (frB num den (2^p)) p k).2+4)≤_
 omega
theorem ln_cross {m:Nat} {e:Int} {D W E W':Nat} {x y:Int×Int} (h:LnOK m e D W x) (k:LnOK m e E W' y) (hD:0<D) (hE:0<E):x.1*(E:Int)≤y.2*(D:Int):=by
 obtain ⟨u,a,⟨N0,b⟩,-⟩:=h
 obtain ⟨v,c,⟨N1,d⟩,-⟩:=k
 rcases Int.lt_or_le (y.2*(D:Int)) (x.1*(E:Int)) with h9|h9
 ·exfalso
  have hd:(0:Rat)<(D:Rat):=Rat.natCast_pos.2 hD
  have he:(0:Rat)<(E:Rat):=Rat.natCast_pos.2 hE
  have hde:=Rat.mul_pos hd he
  have h8:((y.2*(D:Int)+1:Int):Rat)≤((x.1*(E:Int):Int):Rat):=Rat.intCast_le_intCast.2 (by omega)
  rw [Rat.intCast_add,Rat.intCast_mul,Rat.intCast_mul] at h8
  have c1:((D:Int):Rat)=(D:Rat):=rfl
  have c2:((E:Int):Rat)=(E:Rat):=rfl
  have c3:((1:Int):Rat)=1:=rfl
  rw [c1,c2,c3] at h8
  have h6:(0:Rat)<1/(2*((D:Rat)*(E:Rat))):=by
   rw [Rat.div_def,Rat.one_mul]
   exact Rat.inv_pos.2 (by grind)
  obtain ⟨N2,hN2⟩:=a.uniq c _ h6
  obtain ⟨N,hN⟩: ∃N,N0≤N∧N1≤N∧N2≤N:=⟨N0+N1+N2,by omega,by omega,by omega⟩
  have b1:=(b N hN.1).1
  have d1:=(d N hN.2.1).2
  have f1:=(hN2 N hN.2.2).2
  have g1:=Rat.mul_le_mul_of_nonneg_right b1 (show (0:Rat)≤(E:Rat) by grind)
  have g2:=Rat.mul_le_mul_of_nonneg_right d1 (show (0:Rat)≤(D:Rat) by grind)
  have g3:=Rat.mul_le_mul_of_nonneg_left f1 (show (0:Rat)≤(D:Rat)*(E:Rat) by grind)
  have g4:(D:Rat)*(E:Rat)*(1/(2*((D:Rat)*(E:Rat))))=1/2:=by grind
  rw [g4] at g3
  generalize u N=p at *
  generalize v N=q at *
  grind
 ·exact h9
theorem ln_far {m:Nat} {e:Int} {D W:Nat} {x:Int×Int} (h:LnOK m e D W x) (hD:0<D) (h0:0<m) (hm:m<2^1280) (he: -3000≤e∧e≤3000) (h1:dyQ m e≠1) (pl g:Nat) (hpl:pl≤1300) (hg:g=GG+4300) (hp:2^(W+g)≤D) (i:Int) (hi:x.1≤i∧i≤x.2):i*((2^pl:Nat):Int)%(D:Int)≠0:=by
 intro hz
 obtain ⟨u,a,⟨N0,b⟩,c,d⟩:=h
 have far:=log_far m e a h0 hm he h1 pl g hpl hg
 clear hm h1 a hg
 obtain ⟨q,hq⟩: ∃q,q=i*((2^pl:Nat):Int)/(D:Int):=⟨_,rfl⟩
 have e1:i*((2^pl:Nat):Int)=q*(D:Int):=by
  have e:=Int.emod_add_mul_ediv (i*((2^pl:Nat):Int)) (D:Int)
  rw [hz,←hq,Int.mul_comm (D:Int) q] at e
  omega
 have e2:((i*((2^pl:Nat):Int):Int):Rat)=((q*(D:Int):Int):Rat):=by rw [e1]
 rw [Rat.intCast_mul,Rat.intCast_mul] at e2
 have c1:((D:Int):Rat)=(D:Rat):=rfl
 have c2:(((2^pl:Nat):Int):Rat)=2^pl:=by rw [←two_cast];rfl
 rw [c1,c2] at e2
 have hd:(0:Rat)<(D:Rat):=Rat.natCast_pos.2 hD
 have P:=pow2_pos pl
 have G:=pow2_pos g
 have Wp:=pow2_pos W
 have hp2:=natle hp
 rw [two_cast,pow2_add] at hp2
 have d2:((x.2:Int):Rat)≤((x.1+((2^W:Nat):Int):Int):Rat):=Rat.intCast_le_intCast.2 d
 rw [Rat.intCast_add] at d2
 have c3:(((2^W:Nat):Int):Rat)=2^W:=by rw [←two_cast];rfl
 rw [c3] at d2
 have i1:((x.1:Int):Rat)≤(i:Rat):=Rat.intCast_le_intCast.2 hi.1
 have i2:(i:Rat)≤((x.2:Int):Rat):=Rat.intCast_le_intCast.2 hi.2
 obtain ⟨r,hr⟩: ∃r:Rat,r=(q:Rat)/2^pl:=⟨_,rfl⟩
 have hr1:(2:Rat)^pl*r=(q:Rat):=by rw [hr];grind
 obtain ⟨ε,hε⟩: ∃ε:Rat,ε=1/2^g:=⟨_,rfl⟩
 have hε1:(2:Rat)^g*ε=1:=by rw [hε];grind
 have hε0:0<ε:=by
  rw [hε,Rat.div_def,Rat.one_mul]
  exact Rat.inv_pos.2 G
 have hDr:(D:Rat)*r=(i:Rat):=by
  have:(2:Rat)^pl*((D:Rat)*r)=2^pl*(i:Rat):=by grind
  apply Rat.le_antisymm
  ·exact Rat.le_of_mul_le_mul_left (by rw [this];exact Rat.le_refl) P
  ·exact Rat.le_of_mul_le_mul_left (by rw [this];exact Rat.le_refl) P
 have hDe:(2:Rat)^W≤(D:Rat)*ε:=by
  have:=Rat.mul_le_mul_of_nonneg_right hp2 (show (0:Rat)≤ε by grind)
  have e9:(2:Rat)^W*2^g*ε=2^W:=by rw [Rat.mul_assoc,hε1,Rat.mul_one]
  rw [e9] at this
  exact this
 refine far q r ε hr1 hε0 (by rw [hε1];exact Rat.le_refl) N0 (fun N hN=>?_)
 have b1:=b N hN
 generalize u N=p at *
 constructor
 ·apply Rat.le_of_mul_le_mul_left _ hd
  grind
 ·apply Rat.le_of_mul_le_mul_left _ hd
  grind
theorem ln_ends {m:Nat} {e:Int} {D W:Nat} {x:Int×Int} (h:LnOK m e D W x) (hD:0<D) (h0:0<m) (hm:m<2^1280) (he: -3000≤e∧e≤3000) (h1:dyQ m e≠1) (g:Nat) (hg:g=GG+4300) (hp:2^(W+g)≤D): ∃q:Int,st x.1 D=2*q+1∧st x.2 D=2*q+1:=by
 have hw:x.1≤x.2:=by obtain ⟨u,a,b,c,d⟩:=h;exact c
 obtain ⟨pl,hpl⟩: ∃pl,pl=1075:=⟨_,rfl⟩
 have a:=ln_far h hD h0 hm he h1 pl g (by omega) hg hp x.1 ⟨Int.le_refl _,hw⟩
 have b:=ln_far h hD h0 hm he h1 pl g (by omega) hg hp x.2 ⟨hw,Int.le_refl _⟩
 have c:=h.ends hD h0 hm he h1 pl g (by omega) hg hp
 unfold st
 rw [←hpl,pw_nat,if_neg a,if_neg b,←c]
 exact ⟨_,rfl,rfl⟩
def LnR (m:Nat) (e:Int) (mode X:Int):Prop:= ∃(D W:Nat) (x:Int×Int) (c1 c2:Bool),0<D∧LnOK m e D W x∧Rnd 2 (st x.1 D) mode X c1∧Rnd 2 (st x.2 D) mode X c2∧st x.1 D≠0∧st x.2 D≠0
theorem LnR.uniq {m:Nat} {e mode X Y:Int} (h:LnR m e mode X) (k:LnR m e mode Y):X=Y:=by
 obtain ⟨D,W,x,c1,c2,hD,h1,h2,h3,h4,h5⟩:=h
 obtain ⟨E,W',y,d1,d2,hE,k1,k2,k3,k4,k5⟩:=k
 exact rnd_two h2 h3 k2 k3 (st_mono hD hE (ln_cross h1 k1 hD hE)) (st_mono hE hD (ln_cross k1 h1 hE hD)) h4 h5 k4 k5
end Go.Ulp
