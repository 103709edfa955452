/- ExpoLogs: what the proof leans on, part 25 (Sf1 Sf2 ZI Sf3 Eg3 Eg4). -/
import Derived.Test.YtehhegbkahnhgaaGreatDoorKExpoLogs9
import Derived.Test.YtehhegbkahnhgaaGreatDoorKExpoLogs18
import Derived.Test.YtehhegbkahnhgaaGreatDoorKExpoLogs23
import Derived.Test.YtehhegbkahnhgaaGreatDoorKExpoLogs24
set_option linter.unusedVariables false
set_option linter.unusedSimpArgs false
namespace Go.Ulp
open Go.RowKit
structure BeOK (y:PP) (t N:Nat):Prop where
 t0:20≤t
 t1:t≤3000000000
 h1:y.2≤10^t
 h2:y.1≤y.2
 h3:y.2≤y.1+1
 n1:1≤N
 n2:N≤12000000002
 e1:(beT y (10^t) N).2≤2
 e2: ∀i,i<N→ ¬(beT y (10^t) i).2≤2
theorem BV.lo {tb ti:TypeId} {w:World} {g:Nat} {x:PP} (h:BV tb ti w g x): ∃a c,w.cell? ⟨g,0,none⟩=some (.bool false)∧w.cell? ⟨g,1,none⟩=some (.slice a (zl (x.1:Int)).length c)∧ZD ti w (x.1:Int) (.agg #[.bool false,.slice a (zl (x.1:Int)).length c]):=by
 obtain ⟨a,c,b,d,⟨⟨h0,h1,h2,h3⟩,-⟩,n1,n2⟩:=h;exact ⟨a,c,h0,h1,ZD.ofN n1⟩
theorem BV.hi {tb ti:TypeId} {w:World} {g:Nat} {x:PP} (h:BV tb ti w g x): ∃a c,w.cell? ⟨g,2,none⟩=some (.bool false)∧w.cell? ⟨g,3,none⟩=some (.slice a (zl (x.2:Int)).length c)∧ZD ti w (x.2:Int) (.agg #[.bool false,.slice a (zl (x.2:Int)).length c]):=by
 obtain ⟨a,c,b,d,⟨⟨h0,h1,h2,h3⟩,-⟩,n1,n2⟩:=h;exact ⟨b,d,h2,h3,ZD.ofN n2⟩
theorem BV.all {tb ti:TypeId} {w:World} {g:Nat} {x:PP} (h:BV tb ti w g x): ∃a c b d,(w.cell? ⟨g,0,none⟩=some (.bool false)∧w.cell? ⟨g,1,none⟩=some (.slice a (zl (x.1:Int)).length c)∧w.cell? ⟨g,2,none⟩=some (.bool false)∧w.cell? ⟨g,3,none⟩=some (.slice b (zl (x.2:Int)).length d))∧PZ ti w x (.agg #[.bool false,.slice a (zl (x.1:Int)).length c,.bool false,.slice b (zl (x.2:Int)).length d]):=by
 obtain ⟨a,c,b,d,⟨h0,-⟩,n1,n2⟩:=h;exact ⟨a,c,b,d,h0,PZ.mk n1 n2⟩
theorem BV.bc {tb ti:TypeId} {w:World} {g:Nat} {x:PP} (h:BV tb ti w g x): ∃n0 s0 n1 s1,BC tb w g n0 s0 n1 s1:=by
 obtain ⟨a,c,b,d,h1,-⟩:=h;exact ⟨_,_,_,_,h1⟩
theorem BC.set1 {tb:TypeId} {w:World} {g:Nat} {n0 n1:Bool} {s0 s1:Value} (h:BC tb w g n0 s0 n1 s1) (a:Addr) (u:Value) (hk:g≠a.block):BC tb (w.setCell a u) g n0 s0 n1 s1:=by
 obtain ⟨⟨h0,h1,h2,h3⟩,f0,f1,f2,f3,s⟩:=h
 have ne: ∀o:Nat,a≠(⟨g,o,none⟩:Addr):=fun o e=>hk (by rw [e])
 refine ⟨⟨?_,?_,?_,?_⟩,?_,?_,?_,?_,s.setCell _ _⟩
 ·rw [World.cell?_setCell_other (h:=ne _)];exact h0
 ·rw [World.cell?_setCell_other (h:=ne _)];exact h1
 ·rw [World.cell?_setCell_other (h:=ne _)];exact h2
 ·rw [World.cell?_setCell_other (h:=ne _)];exact h3
 ·rw [frozen_setCell];exact f0
 ·rw [frozen_setCell];exact f1
 ·rw [frozen_setCell];exact f2
 ·rw [frozen_setCell];exact f3
theorem BV.put_hi {tb ti:TypeId} {w:World} {g:Nat} {x:PP} {z:Nat} {b:Option Addr} {d:Nat} (h:BV tb ti w g x) (hne:tb≠ti) (n:Nz ti w b d (zl (z:Int))):BV tb ti ((w.setCell ⟨g,2,none⟩ (.bool false)).setCell ⟨g,3,none⟩ (.slice b (zl (z:Int)).length d)) g (x.1,z):=by
 obtain ⟨a,c,b',d',⟨⟨h0,h1,h2,h3⟩,f0,f1,f2,f3,s⟩,n1,n2⟩:=h
 have ne: ∀i j:Nat,i≠j→(⟨g,i,none⟩:Addr)≠⟨g,j,none⟩:=fun i j hij e=>hij (by injection e)
 refine ⟨a,c,b,d,⟨⟨?_,?_,?_,?_⟩,?_,?_,?_,?_,(s.setCell _ _).setCell _ _⟩,(n1.setCell s hne _ _).setCell (s.setCell _ _) hne _ _,(n.setCell s hne _ _).setCell (s.setCell _ _) hne _ _⟩
 ·rw [World.cell?_setCell_other (h:=ne _ _ (by decide)),World.cell?_setCell_other (h:=ne _ _ (by decide))];exact h0
 ·rw [World.cell?_setCell_other (h:=ne _ _ (by decide)),World.cell?_setCell_other (h:=ne _ _ (by decide))];exact h1
 ·rw [World.cell?_setCell_other (h:=ne _ _ (by decide))]
  exact World.cell?_setCell_same _ _ _ h2
 ·refine World.cell?_setCell_same _ _ _ (u:=.slice b' (zl (x.2:Int)).length d') ?_
  rw [World.cell?_setCell_other (h:=ne _ _ (by decide))];exact h3
 all_goals rw [frozen_setCell,frozen_setCell];assumption
theorem ten12 {t:Nat} (h:20≤t):12≤10^t:=Nat.le_trans (show 12≤10^20 by decide) (Nat.pow_le_pow_right (by omega) h)
theorem BeOK.term {y:PP} {t N:Nat} (h:BeOK y t N) (i:Nat):(beT y (10^t) i).1≤10^(t+20)∧(beT y (10^t) i).2≤10^(t+20):=by
 have a:=(bT_wd (ten12 h.t0) h.h1 h.h2 h.h3 i).2
 have b:=bT_top (D:=10^t) (by have:=ten12 h.t0;omega) h.h1 i
 have c:10^t+2≤10^(t+20):=by
  rw [Nat.pow_add]
  have:=ten12 h.t0
  have:10^t*2≤10^t*10^20:=Nat.mul_le_mul_left _ (by decide)
  omega
 omega
theorem BeOK.sum {y:PP} {t N:Nat} (h:BeOK y t N): ∀i,i≤12000000002→(beS y (10^t) i).1≤10^(t+20)∧(beS y (10^t) i).2≤10^(t+20):=by
 have hb: ∀i,(beS y (10^t) i).2≤(i+1)*(10^t+2):=by
  intro i
  induction i with
  |zero=>
   show (beT y (10^t) 0).2≤_
   have b:=bT_top (D:=10^t) (by have:=ten12 h.t0;omega) h.h1 0
   omega
  |succ i ih=>
   show (beS y (10^t) i).2+(beT y (10^t) (i+1)).2≤_
   have b:=bT_top (D:=10^t) (by have:=ten12 h.t0;omega) h.h1 (i+1)
   rw [Nat.succ_mul (i+1)]
   omega
 intro i hi
 have a:=(bS_wd (ten12 h.t0) h.h1 h.h2 h.h3 i).2.1
 have b:=hb i
 have c:(i+1)*(10^t+2)≤10^(t+20):=by
  have d:=ten12 h.t0
  have e:(i+1)*(10^t+2)≤12000000003*(10^t*2):=Nat.mul_le_mul (by omega) (by omega)
  have f:12000000003*(10^t*2)=10^t*24000000006:=by rw [Nat.mul_comm (10^t) 2,←Nat.mul_assoc,Nat.mul_comm]
  have g:10^t*24000000006≤10^t*10^20:=Nat.mul_le_mul_left _ (by decide)
  rw [Nat.pow_add]
  omega
 omega
end Go.Ulp
namespace Go.Proofs.YtehhegbkahnhgaaGreatDoor
open Go.RowKit Go.Ulp
set_option maxHeartbeats 4000000
set_option maxRecDepth 100000
end Go.Proofs.YtehhegbkahnhgaaGreatDoor
namespace Go.Ulp
open Go.RowKit
def Sz (t:Nat) (x:PP):Prop:=x.1≤10^(t+1650)∧x.2≤10^(t+1650)
theorem sz_of {t i:Nat} {x:PP} (h:x.1≤x.2) (hi:i≤4900) (k:x.2≤10^t*2^i):Sz t x:=by
 have a:x.2≤10^(t+1650):=by
  obtain ⟨z,hz⟩: ∃z,z=550:=⟨_,rfl⟩
  rw [show t+1650=t+3*z by omega,Nat.pow_add,Nat.pow_mul]
  refine Nat.le_trans k (Nat.mul_le_mul_left _ ?_)
  have e2:(2:Nat)^i≤(2^9)^z:=by rw [←Nat.pow_mul];exact Nat.pow_le_pow_right (by omega) (by omega)
  exact Nat.le_trans e2 (Nat.pow_le_pow_left (by omega) _)
 exact ⟨Nat.le_trans h a,a⟩
theorem bMul_mono {a b:PP} {D:Nat} (ha:a.1≤a.2) (hb:b.1≤b.2):(bMul a b D).1≤(bMul a b D).2:=
 Nat.le_trans (Nat.div_le_div_right (Nat.mul_le_mul ha hb)) (Nat.le_succ _)
theorem bMul_top {a b:PP} {D i j:Nat} (hD:0<D) (ha:a.2≤D*2^i) (hb:b.2≤D*2^j):(bMul a b D).2≤D*2^(i+j+1):=by
 show a.2*b.2/D+1≤_
 have h:a.2*b.2/D≤D*2^(i+j):=by
  refine Nat.div_le_of_le_mul (Nat.le_trans (Nat.mul_le_mul ha hb) (Nat.le_of_eq ?_))
  rw [Nat.mul_mul_mul_comm,Nat.mul_assoc D D,Nat.pow_add]
 have e:D*2^(i+j+1)=D*2^(i+j)*2:=by rw [Nat.pow_succ,Nat.mul_assoc]
 have:=Nat.mul_pos hD (Nat.two_pow_pos (i+j))
 omega
theorem pow_up {x D i j:Nat} (h:x≤D*2^i) (hij:i≤j):x≤D*2^j:=Nat.le_trans h (Nat.mul_le_mul_left _ (Nat.pow_le_pow_right (by omega) hij))
theorem bPow_top {D:Nat} (hD:0<D) {a:PP} (h01:a.1≤a.2) (h5:a.2≤D*2^3): ∀(f n:Nat),n≤f→(bPow a D f n).1≤(bPow a D f n).2∧(bPow a D f n).2≤D*2^(6*n-1)
 |0,n,h=>by
  have:n=0:=by omega
  subst this
  exact ⟨Nat.le_refl _,Nat.le_of_eq (Nat.mul_one D).symm⟩
 |f+1,n,h=>by
  unfold bPow
  by_cases h0:n=0
  ·subst h0
   rw [if_pos rfl]
   exact ⟨Nat.le_refl _,Nat.le_of_eq (Nat.mul_one D).symm⟩
  ·rw [if_neg h0]
   obtain ⟨i1,i2⟩:=bPow_top hD h01 h5 f (n/2) (by omega)
   generalize bPow a D f (n/2)=h at *
   have b1:=bMul_mono (D:=D) i1 i1
   have b2:=bMul_top hD i2 i2
   dsimp only
   by_cases h1:n%2=1
   ·rw [if_pos h1]
    exact ⟨bMul_mono b1 h01,pow_up (bMul_top hD b2 h5) (by omega)⟩
   ·rw [if_neg h1]
    exact ⟨b1,pow_up b2 (by omega)⟩
end Go.Ulp
namespace Go.Proofs.YtehhegbkahnhgaaGreatDoor
open Go.RowKit Go.Ulp
set_option maxHeartbeats 4000000
set_option maxRecDepth 100000
end Go.Proofs.YtehhegbkahnhgaaGreatDoor
namespace Go.Ulp
open Go.RowKit
theorem val_of (N n m:Nat) (x0:Int) (h:nrm (N:Int) (-(n:Int))=nrm (m:Int) x0):((2^n:Nat):Rat)*dyQ m x0=(N:Rat):=by
 obtain ⟨k,a1,a2⟩:=nrm_rep (N:Int) (-(n:Int))
 obtain ⟨l,b1,b2⟩:=nrm_rep (m:Int) x0
 rw [h] at a1 a2
 have key:m*(2^n*2^x0.toNat)=N*2^(-x0).toNat:=by
  by_cases hm:m=0
  ·have h0:(nrm (m:Int) x0).1=0:=by rw [hm];rfl
   rw [h0,Int.zero_mul] at a1
   have:N=0:=by omega
   rw [hm,this,Nat.zero_mul,Nat.zero_mul]
  ·have hN:(N:Int)≠0:=fun hN=>by
    have h1:=(nrm_zero_iff (N:Int) (-(n:Int))).2 hN
    rw [h] at h1
    exact hm (by have:=(nrm_zero_iff (m:Int) x0).1 h1;omega)
   have a2:=a2 hN
   have b2:=b2 (by omega)
   apply Int.ofNat_inj.1
   rw [Int.natCast_mul,Int.natCast_mul,Int.natCast_mul,←pw_nat,←pw_nat,←pw_nat]
   generalize (nrm (m:Int) x0).1=y at *
   rw [a1,b1,Int.mul_assoc,Int.mul_assoc,←pw_add,←pw_add,←pw_add]
   congr 2
   omega
 apply Rat.le_antisymm
 all_goals
  apply Rat.le_of_mul_le_mul_left _ (pow2_pos (-x0).toNat)
  have e:=dyQ_eq m x0
  have key2:((m*(2^n*2^x0.toNat):Nat):Rat)=((N*2^(-x0).toNat:Nat):Rat):=by rw [key]
  rw [cast_mul,cast_mul,cast_mul,two_cast,two_cast,two_cast] at key2
  rw [two_cast]
  have e2:(2:Rat)^(-x0).toNat*((2:Rat)^n*dyQ m x0)=(2:Rat)^(-x0).toNat*(N:Rat):=by grind
  rw [e2]
  exact Rat.le_refl
theorem sg_neg_iff {neg:Bool} {m:Nat} (hm:0<m):(sg neg (m:Int)<0)↔neg=true:=by
 cases neg
 ·show (m:Int)<0↔_
  constructor
  ·intro h;omega
  ·intro h;cases h
 ·show -(m:Int)<0↔_
  constructor
  ·intro _;rfl
  ·intro _;omega
theorem sign_of (X:Int) (n m:Nat) (x0:Int) (neg:Bool) (h:nrm X (-(n:Int))=nrm (sg neg (m:Int)) x0) (hm:0<m):zneg X=neg:=by
 obtain ⟨k,a1,-⟩:=nrm_rep X (-(n:Int))
 obtain ⟨l,b1,-⟩:=nrm_rep (sg neg (m:Int)) x0
 rw [h] at a1
 generalize (nrm (sg neg (m:Int)) x0).1=y at *
 have p1:=pw_pos k
 have p2:=pw_pos l
 have e:=sg_neg_iff (neg:=neg) hm
 rw [b1] at e
 have f1:(X<0)↔(y<0):=by
  rw [a1]
  constructor
  ·intro h2;exact Int.lt_of_not_ge fun h3=>by have:=Int.mul_nonneg h3 (Int.le_of_lt p1);omega
  ·intro h2;exact Int.mul_neg_of_neg_of_pos h2 p1
 have f2:(y*pw l<0)↔(y<0):=by
  constructor
  ·intro h2;exact Int.lt_of_not_ge fun h3=>by have:=Int.mul_nonneg h3 (Int.le_of_lt p2);omega
  ·intro h2;exact Int.mul_neg_of_neg_of_pos h2 p2
 unfold zneg
 have f3:(X<0)↔neg=true:=by rw [f1,←f2];exact e
 cases neg
 ·exact decide_eq_false (by rw [f3];simp)
 ·exact decide_eq_true (f3.2 rfl)
theorem bE_top {y:PP} {t N:Nat} (h:BeOK y t N) (x:Rat) (x0:0≤x) (x1:x≤1) (h1:(y.1:Rat)≤((10^t:Nat):Rat)*x) (h2:((10^t:Nat):Rat)*x≤(y.2:Rat)):(up9 (beS y (10^t) N)).1≤(up9 (beS y (10^t) N)).2∧(up9 (beS y (10^t) N)).2≤10^t*2^3:=by
 have hD:=Nat.pow_pos (n:=t) (show 0<10 by omega)
 have i:=bothE_in y (10^t) hD x x0 x1 h1 h2 N h.n1 h.e1
 have tp:=i.top x0 1 (by have:((1:Nat):Rat)=1:=rfl
                         grind)
 obtain ⟨wa,la,-⟩:=bS_wd (ten12 h.t0) h.h1 h.h2 h.h3 N
 have hn:=h.n2
 have h20:10^20≤10^t:=Nat.pow_le_pow_right (by omega) h.t0
 have e20:8*(12000000002+1)+9≤10^20:=by decide
 show (beS y (10^t) N).1≤(beS y (10^t) N).2+9∧(beS y (10^t) N).2+9≤_
 have tp2:(beS y (10^t) N).1≤10^t*2^(2*1):=tp
 generalize 10^t=D at *
 omega
structure EbOK (N b t n1 n2:Nat):Prop where
 hb:0<b
 t0:20≤t
 t1:t≤3000000000
 b1:BeOK (10^t,10^t) t n1
 b2:BeOK (frB (N%b) b (10^t)) t n2
 w:N/b≤800
theorem EbOK.tops {N b t n1 n2:Nat} (h:EbOK N b t n1 n2) (y:Rat) (hy:(b:Rat)*y=(N:Rat)):
 ((up9 (beS (10^t,10^t) (10^t) n1)).1≤(up9 (beS (10^t,10^t) (10^t) n1)).2∧(up9 (beS (10^t,10^t) (10^t) n1)).2≤10^t*2^3)∧
 ((up9 (beS (frB (N%b) b (10^t)) (10^t) n2)).1≤(up9 (beS (frB (N%b) b (10^t)) (10^t) n2)).2∧(up9 (beS (frB (N%b) b (10^t)) (10^t) n2)).2≤10^t*2^3):=by
 have hD:=Nat.pow_pos (n:=t) (show 0<10 by omega)
 obtain ⟨x,x0,x1,hx,-⟩:=frac_parts N b h.hb y hy
 have f:=frB_in (N%b) b (10^t) h.hb x hx
 exact ⟨bE_top h.b1 1 (by grind) (by grind) (by show ((10^t:Nat):Rat)≤_;grind) (by show _≤((10^t:Nat):Rat);grind),bE_top h.b2 x x0 x1 f.1 f.2⟩
theorem EbOK.sizes {N b t n1 n2:Nat} (h:EbOK N b t n1 n2) (y:Rat) (hy:(b:Rat)*y=(N:Rat)):
 Sz t (bPow (up9 (beS (10^t,10^t) (10^t) n1)) (10^t) (N/b) (N/b))∧Sz t (up9 (beS (frB (N%b) b (10^t)) (10^t) n2))∧Sz t (eB N b (10^t) n1 n2)∧0<(eB N b (10^t) n1 n2).1∧0<(eB N b (10^t) n1 n2).2:=by
 have hD:=Nat.pow_pos (n:=t) (show 0<10 by omega)
 obtain ⟨⟨a1,a2⟩,⟨f1,f2⟩⟩:=h.tops y hy
 obtain ⟨p1,p2⟩:=bPow_top hD a1 a2 (N/b) (N/b) (Nat.le_refl _)
 have w:=h.w
 have low:=eB_low N b (10^t) n1 n2 h.hb (ten12 h.t0)
 have m1:(eB N b (10^t) n1 n2).1≤(eB N b (10^t) n1 n2).2:=bMul_mono p1 f1
 have m2:(eB N b (10^t) n1 n2).2≤10^t*2^(6*(N/b)-1+3+1):=bMul_top hD p2 f2
 exact ⟨sz_of p1 (by omega) p2,sz_of f1 (by omega) f2,sz_of m1 (by omega) m2,by omega,by omega⟩
def Fact.qn (ti:TypeId) (r n:Nat):Fact:=⟨fun v w=> ∃a c,v=.agg #[.bool false,.slice a (zl (r:Int)).length c,.int .i64 (n:Int)]∧Nz ti w a c (zl (r:Int)),fun _ _ _ h hb=>by
 obtain ⟨a,c,h1,h2⟩:=h;exact ⟨a,c,h1,h2.below hb⟩⟩
def Fact.b0 (B:Nat) (t:TypeId):Fact:=⟨fun v w=> ∃g,v=.pointer (some ⟨g,0,none⟩)∧B≤g∧BC t w g false (.slice none 0 0) false (.slice none 0 0),fun _ _ _ h hb=>by
 obtain ⟨g,h1,h2,h3⟩:=h;exact ⟨g,h1,h2,h3.below hb⟩⟩
end Go.Ulp
namespace Go.Proofs.YtehhegbkahnhgaaGreatDoor
open Go.RowKit Go.Ulp
set_option maxHeartbeats 4000000
set_option maxRecDepth 100000
end Go.Proofs.YtehhegbkahnhgaaGreatDoor
namespace Go.Ulp
open Go.RowKit
theorem below_cmp (G c K:Int) (hK:2≤K):cmpI (G*K) (c*K-1)=if G<c then -1 else 1:=by
 by_cases h:G<c
 ·rw [if_pos h]
  have:(G+1)*K≤c*K:=Int.mul_le_mul_of_nonneg_right (by omega) (by omega)
  rw [Int.add_mul,Int.one_mul] at this
  exact cmpI_l (by omega)
 ·rw [if_neg h]
  have:c*K≤G*K:=Int.mul_le_mul_of_nonneg_right (by omega) (by omega)
  exact cmpI_g (by omega)
def Blw (s:Nat) (V c:Int):Prop:=(∀r,cR s V r=if 2*rvs r<c then -1 else 1)∧(∀r,cM s V r= -(if rvs r+rvs (r+1)<c then -1 else 1))∧cmpI V 0=if 0<c then 1 else -1
theorem Blw.rnd {s t:Nat} {V U c mode X:Int} {ch:Bool} (h:Blw s V c) (k:Blw t U c) (r:Rnd s V mode X ch):Rnd t U mode X ch:=
 r.same (fun r=>(h.1 r).trans (k.1 r).symm) (fun r=>(h.2.1 r).trans (k.2.1 r).symm) (h.2.2.trans k.2.2.symm)
theorem blw_of (s:Nat) (c V:Int) (hc:c≠0) (hV:V=c*pw (s+1)-1):Blw (s+2) V c:=by
 have hK:2≤pw (s+1):=by rw [pw_add,show pw 1=2 by decide];have:=pw_pos s;omega
 have e2:pw (s+2)=2*pw (s+1):=by rw [show s+2=s+1+1 from rfl,pw_add (s+1),show pw 1=2 by decide,Int.mul_comm]
 refine ⟨fun r=>?_,fun r=>?_,?_⟩
 ·unfold cR rT
  rw [←below_cmp _ _ _ hK,←hV,e2]
  congr 1
  rw [←Int.mul_assoc,Int.mul_comm (rvs r)]
 ·unfold cM rT
  rw [cmpI_swap,←below_cmp _ _ _ hK,←hV,e2]
  congr 1
  have: ∀a b:Int,cmpI (2*a) (2*b)=cmpI a b:=by intro a b;unfold cmpI;split<;>split<;>(try split)<;>(try split)<;>omega
  rw [←this ((rvs r+rvs (r+1))*pw (s+1)) V,←Int.add_mul]
  generalize rvs r+rvs (r+1)=y
  congr 1
  rw [←Int.mul_assoc,Int.mul_comm y,Int.mul_assoc]
 ·rw [hV]
  by_cases h:0<c
  ·rw [if_pos h]
   have:1*pw (s+1)≤c*pw (s+1):=Int.mul_le_mul_of_nonneg_right (by omega) (by omega)
   exact cmpI_g (by omega)
  ·rw [if_neg h]
   have:c*pw (s+1)≤0:=by
    have:=Int.mul_le_mul_of_nonneg_right (show c≤0 by omega) (show 0≤pw (s+1) by omega)
    rwa [Int.zero_mul] at this
   exact cmpI_l (by omega)
theorem blw_two (c:Int) (hc:c≠0):Blw 2 (2*c-1) c:=by
 have h:=blw_of 0 c (2*c-1) hc (by rw [show pw (0+1)=2 by decide];omega)
 exact h
theorem far_pos (B f M E:Nat) (hB:B≤18014398509481984) (hM:M<9007199254740992) (hM0:0<M) (h:B*2^f<M*2^E):M*2^E<(M*2^E-B*2^f)*2^58:=by
 rcases Nat.le_total E f with he|he
 ·obtain ⟨d,rfl⟩: ∃d,f=E+d:=⟨f-E,by omega⟩
  have e:B*2^(E+d)=B*2^d*2^E:=by rw [Nat.pow_add,Nat.mul_assoc,Nat.mul_comm (2^E)]
  rw [e] at h ⊢
  have P:=Nat.two_pow_pos E
  generalize B*2^d=b at *
  have h1:b<M:=Nat.lt_of_mul_lt_mul_right h
  have h2:(b+1)*2^E≤M*2^E:=Nat.mul_le_mul_right _ h1
  rw [Nat.add_mul] at h2
  have h3:M*2^E<9007199254740992*2^E:=(Nat.mul_lt_mul_right P).2 hM
  generalize M*2^E=k at *
  generalize b*2^E=g at *
  omega
 ·obtain ⟨d,rfl⟩: ∃d,E=f+d:=⟨E-f,by omega⟩
  have e:M*2^(f+d)=M*2^d*2^f:=by rw [Nat.pow_add,Nat.mul_assoc,Nat.mul_comm (2^f)]
  rw [e] at h ⊢
  have P:=Nat.two_pow_pos f
  generalize M*2^d=k at *
  have h1:B<k:=Nat.lt_of_mul_lt_mul_right h
  have h2:(B+1)*2^f≤k*2^f:=Nat.mul_le_mul_right _ h1
  rw [Nat.add_mul] at h2
  have h3:B*2^f≤18014398509481984*2^f:=Nat.mul_le_mul_right _ hB
  generalize k*2^f=k at *
  generalize B*2^f=g at *
  omega
theorem far_neg (B f M E:Nat) (hB:B≤18014398509481984) (hM:M<9007199254740992) (hM0:0<M) (h:M*2^E<B*2^f):M*2^E<(B*2^f-M*2^E)*2^58:=by
 rcases Nat.le_total E f with he|he
 ·obtain ⟨d,rfl⟩: ∃d,f=E+d:=⟨f-E,by omega⟩
  have e:B*2^(E+d)=B*2^d*2^E:=by rw [Nat.pow_add,Nat.mul_assoc,Nat.mul_comm (2^E)]
  rw [e] at h ⊢
  have P:=Nat.two_pow_pos E
  generalize B*2^d=b at *
  have h1:M<b:=Nat.lt_of_mul_lt_mul_right h
  have h2:(M+1)*2^E≤b*2^E:=Nat.mul_le_mul_right _ h1
  rw [Nat.add_mul] at h2
  have h3:M*2^E<9007199254740992*2^E:=(Nat.mul_lt_mul_right P).2 hM
  generalize M*2^E=k at *
  generalize b*2^E=g at *
  omega
 ·obtain ⟨d,rfl⟩: ∃d,E=f+d:=⟨E-f,by omega⟩
  have e:M*2^(f+d)=M*2^d*2^f:=by rw [Nat.pow_add,Nat.mul_assoc,Nat.mul_comm (2^f)]
  rw [e] at h ⊢
  have P:=Nat.two_pow_pos f
  generalize M*2^d=k at *
  have h1:k<B:=Nat.lt_of_mul_lt_mul_right h
  have h2:(k+1)*2^f≤B*2^f:=Nat.mul_le_mul_right _ h1
  rw [Nat.add_mul] at h2
  have h3:B*2^f≤18014398509481984*2^f:=Nat.mul_le_mul_right _ hB
  generalize k*2^f=k at *
  generalize B*2^f=g at *
  omega
theorem far_rel (n neg:Bool) (B f M E:Nat) (hB:B≤18014398509481984) (hM:M<9007199254740992) (hM0:0<M) (h:sg n ((B*2^f:Nat):Int)<sg neg ((M*2^E:Nat):Int)):
 sg n ((B*2^f:Nat):Int)*288230376151711744<sg neg ((M*2^E:Nat):Int)*288230376151711744-((M*2^E:Nat):Int):=by
 have hp:0<M*2^E:=Nat.mul_pos hM0 (Nat.two_pow_pos E)
 have p58:(2:Nat)^58=288230376151711744:=by decide
 cases neg
 ·cases n
  ·have:=far_pos B f M E hB hM hM0 (Int.ofNat_lt.1 h)
   rw [p58] at this
   unfold sg at h ⊢
   simp only [Bool.false_eq_true,if_false] at h ⊢
   omega
  ·unfold sg at h ⊢
   simp only [Bool.false_eq_true,if_false,if_true] at h ⊢
   omega
 ·cases n
  ·unfold sg at h
   simp only [Bool.false_eq_true,if_false,if_true] at h
   omega
  ·have:=far_neg B f M E hB hM hM0 (by
    unfold sg at h
    simp only [if_true] at h
    omega)
   rw [p58] at this
   unfold sg at h ⊢
   simp only [if_true] at h ⊢
   omega
theorem blw_far (neg:Bool) (M E d:Nat) (hM:M<9007199254740992) (hM0:0<M) (hd:d=1075+58) (c:Int) (hc:c=sg neg ((M*2^E:Nat):Int)):Blw 2 (st (c*288230376151711744-(c.natAbs:Int)) (2^d)) c:=by
 have hp:0<M*2^E:=Nat.mul_pos hM0 (Nat.two_pow_pos E)
 have ha:(c.natAbs:Int)=((M*2^E:Nat):Int):=by rw [hc];unfold sg;split<;>omega
 have hP:0<2^d:=Nat.two_pow_pos d
 have ed:((2^d:Nat):Int)=288230376151711744*pw 1075:=by
  rw [←pw_nat,hd,pw_add,show pw 58=288230376151711744 by decide,Int.mul_comm]
 have key: ∀G:Int,(∃n B f,G=sg n ((B*2^f:Nat):Int)∧B≤18014398509481984)→cmpI (G*((2^d:Nat):Int)) ((c*288230376151711744-(c.natAbs:Int))*pw 1075)=if G<c then -1 else 1:=by
  rintro G ⟨n,B,f,hG,hB⟩
  have e1:G*((2^d:Nat):Int)=pw 1075*(G*288230376151711744):=by
   rw [ed]
   generalize pw 1075=P
   rw [←Int.mul_assoc,Int.mul_comm]
  rw [e1,Int.mul_comm (c*288230376151711744-(c.natAbs:Int)),cmpI_pos_mul _ _ _ (pw_pos _)]
  by_cases h:G<c
  ·rw [if_pos h]
   have:=far_rel n neg B f M E hB hM hM0 (by rw [←hG,←hc];exact h)
   rw [←hG,←hc,←ha] at this
   exact cmpI_l this
  ·rw [if_neg h]
   exact cmpI_g (by omega)
 refine ⟨fun r=>?_,fun r=>?_,?_⟩
 ·rw [cR_st _ _ hP]
  apply key
  obtain ⟨q,h,n,e,hq⟩:=rT_rep 1 r
  refine ⟨n,q,h+1,?_,by omega⟩
  rw [←e]
  unfold rT
  rw [show pw 1=2 by decide,Int.mul_comm]
 ·rw [cM_st _ _ hP]
  congr 1
  apply key
  obtain ⟨q,h,n,e,hq⟩:=rT_mid_rep 0 r
  refine ⟨n,2*q+1,h,?_,by omega⟩
  have e':rT 0 r+rT 0 (r+1)=sg n (((2*q+1)*2^h:Nat):Int):=e
  rw [←e']
  unfold rT
  rw [pw_zero,Int.mul_one,Int.mul_one]
 ·rw [st_sign _ _ hP]
  by_cases h:0<c
  ·rw [if_pos h];exact cmpI_g (by omega)
  ·rw [if_neg h];exact cmpI_l (by omega)
theorem lp_bounds {m:Nat} {e:Int} {D W:Nat} {y:Int×Int} (h:LnOK m e D W y) (hD:0<D) (h0:0<m) (hm:m<2^1280) (he: -3000≤e∧e≤3000) (h1:dyQ m e≠1) (pl g:Nat) (hpl:pl≤1300) (hg:g=GG+4300) (c:Int) (hc:c≠0) (h60:c.natAbs*1152921504606846976≤2^pl) (hv:(2:Rat)^pl*dyQ m e=2^pl+(c:Rat)):
 y.1*((2^pl:Nat):Int)<c*(D:Int)∧(c*288230376151711744-(c.natAbs:Int))*(D:Int)≤y.2*((2^(pl+58):Nat):Int):=by
 obtain ⟨u,a,⟨N0,b⟩,-⟩:=h
 have far:=log_far m e a h0 hm he h1 pl g hpl hg
 have hQ:=dyQ_pos' h0 e
 clear hm h1 hg
 obtain ⟨Q,hQd⟩: ∃Q,Q=dyQ m e:=⟨_,rfl⟩
 rw [←hQd] at a hv hQ
 have P:=pow2_pos pl
 have G:=pow2_pos g
 have hd:(0:Rat)<(D:Rat):=Rat.natCast_pos.2 hD
 obtain ⟨X,hX⟩: ∃X:Rat,X=Q-1:=⟨_,rfl⟩
 have hX1:(2:Rat)^pl*X=(c:Rat):=by rw [hX];grind
 have c1:((D:Int):Rat)=(D:Rat):=rfl
 have c2:(((2^pl:Nat):Int):Rat)=2^pl:=by rw [←two_cast];rfl
 constructor
 ·rcases Int.lt_or_le (y.1*((2^pl:Nat):Int)) (c*(D:Int)) with h9|h9
  ·exact h9
  ·exfalso
   have h8:((c*(D:Int):Int):Rat)≤((y.1*((2^pl:Nat):Int):Int):Rat):=Rat.intCast_le_intCast.2 h9
   rw [Rat.intCast_mul,Rat.intCast_mul,c1,c2,←hX1] at h8
   have h7:(D:Rat)*X≤(y.1:Rat):=Rat.le_of_mul_le_mul_left (by grind) P
   obtain ⟨ε,hε⟩: ∃ε:Rat,ε=1/2^g:=⟨_,rfl⟩
   have hε1:(2:Rat)^g*ε=1:=by rw [hε];grind
   have hε0:0<ε:=by
    rw [hε,Rat.div_def,Rat.one_mul]
    exact Rat.inv_pos.2 G
   obtain ⟨N1,hN1⟩:=log_le a hQ ε hε0
   refine far c X ε hX1 hε0 (by rw [hε1];exact Rat.le_refl) (N0+N1) (fun N hN=>?_)
   have b1:=(b N (by omega)).1
   have b2:=hN1 N (by omega)
   have b3:X≤u N:=Rat.le_of_mul_le_mul_left (by grind) hd
   generalize u N=p at *
   constructor<;>grind
 ·rcases Int.lt_or_le (y.2*((2^(pl+58):Nat):Int)) ((c*288230376151711744-(c.natAbs:Int))*(D:Int)) with h9|h9
  ·exfalso
   obtain ⟨s,hs⟩: ∃s:Rat,s=(c.natAbs:Rat)/2^pl:=⟨_,rfl⟩
   have hs1:(2:Rat)^pl*s=(c.natAbs:Rat):=by rw [hs];grind
   have hcn:(0:Rat)<(c.natAbs:Rat):=Rat.natCast_pos.2 (by omega)
   have hs0:0<s:=by
    rw [hs,Rat.div_def]
    exact Rat.mul_pos hcn (Rat.inv_pos.2 P)
   have hsX:X=s∨X= -s:=by
    rcases Int.lt_or_le c 0 with hn|hn
    ·right
     have e1:(c:Rat)= -(c.natAbs:Rat):=by
      have:c= -(c.natAbs:Int):=by omega
      have e2:(c:Rat)=((-(c.natAbs:Int):Int):Rat):=by rw [←this]
      rw [e2,Rat.intCast_neg];rfl
     have:(2:Rat)^pl*X=2^pl*(-s):=by grind
     apply Rat.le_antisymm
     ·exact Rat.le_of_mul_le_mul_left (by rw [this];exact Rat.le_refl) P
     ·exact Rat.le_of_mul_le_mul_left (by rw [this];exact Rat.le_refl) P
    ·left
     have e1:(c:Rat)=(c.natAbs:Rat):=by
      have:c=(c.natAbs:Int):=by omega
      have e2:(c:Rat)=((c.natAbs:Int):Rat):=by rw [←this]
      rw [e2];rfl
     have:(2:Rat)^pl*X=2^pl*s:=by grind
     apply Rat.le_antisymm
     ·exact Rat.le_of_mul_le_mul_left (by rw [this];exact Rat.le_refl) P
     ·exact Rat.le_of_mul_le_mul_left (by rw [this];exact Rat.le_refl) P
   have h6:=natle h60
   rw [cast_mul,two_cast] at h6
   have k60:((1152921504606846976:Nat):Rat)=1152921504606846976:=rfl
   rw [k60] at h6
   have hs60:s*1152921504606846976≤1:=Rat.le_of_mul_le_mul_left (by grind) P
   have h8:((y.2*((2^(pl+58):Nat):Int):Int):Rat)≤(((c*288230376151711744-(c.natAbs:Int))*(D:Int):Int):Rat):=Rat.intCast_le_intCast.2 (Int.le_of_lt h9)
   have c3:(((2^(pl+58):Nat):Int):Rat)=2^pl*288230376151711744:=by
    have:(((2^(pl+58):Nat):Int):Rat)=2^(pl+58):=by rw [←two_cast];rfl
    rw [this,pow2_add]
    congr 1
   have c4:((288230376151711744:Int):Rat)=288230376151711744:=rfl
   have c5:(((c.natAbs:Int)):Rat)=(c.natAbs:Rat):=rfl
   rw [Rat.intCast_mul,Rat.intCast_mul,Rat.intCast_sub,Rat.intCast_mul,c1,c3,c4,c5,←hX1,←hs1] at h8
   have h7:(y.2:Rat)*288230376151711744≤(X*288230376151711744-s)*(D:Rat):=Rat.le_of_mul_le_mul_left (by grind) P
   obtain ⟨E,hE⟩: ∃E:Rat,E=1/Q:=⟨_,rfl⟩
   have hQE:Q*E=1:=by rw [hE];grind
   have hE0:0<E:=by rw [hE,Rat.div_def,Rat.one_mul];exact Rat.inv_pos.2 hQ
   obtain ⟨ε,hε⟩: ∃ε:Rat,ε=s/1152921504606846976:=⟨_,rfl⟩
   have hε1:ε*1152921504606846976=s:=by rw [hε];grind
   have hε0:0<ε:=by grind
   obtain ⟨N1,hN1⟩:=log_le (a.neg hQE) hE0 ε hε0
   have b1:=(b (N0+N1) (by omega)).2
   have b2:=hN1 (N0+N1) (by omega)
   generalize u (N0+N1)=p at *
   have hXX:X*X=s*s:=by rcases hsX with h|h<;>rw [h]<;>grind
   obtain ⟨S,hS⟩: ∃S:Rat,S=X*X*E:=⟨_,rfl⟩
   have e1:E=1-X+S:=by grind
   have hX2: -(1/2)≤X:=by rcases hsX with h|h<;>rw [h]<;>grind
   have hE2:E≤2:=by
    have:(1/2:Rat)*E≤Q*E:=Rat.mul_le_mul_of_nonneg_right (by grind) (by grind)
    grind
   have hss:0≤s*s:=Rat.mul_nonneg (by grind) (by grind)
   have hS2:S≤s*s*2:=by
    rw [hS,hXX]
    exact Rat.mul_le_mul_of_nonneg_left hE2 hss
   have hs3:s*s*1152921504606846976≤s:=by
    have:=Rat.mul_le_mul_of_nonneg_left hs60 (show (0:Rat)≤s by grind)
    grind
   have k7:(D:Rat)*(p*288230376151711744)≤(D:Rat)*(X*288230376151711744-s):=by grind
   have k8:=Rat.le_of_mul_le_mul_left k7 hd
   grind
  ·exact h9
theorem lp_small {m:Nat} {e mode X Y:Int} {ch:Bool} (h:LnR m e mode X) (h0:0<m) (hm:m<2^1280) (he: -3000≤e∧e≤3000) (h1:dyQ m e≠1) (neg:Bool) (M E pl:Nat) (hM:M<9007199254740992) (hM0:0<M) (hpl:pl=1075) (c:Int) (hc:c=sg neg ((M*2^E:Nat):Int)) (h60:M*2^E*1152921504606846976≤2^pl) (hv:(2:Rat)^pl*dyQ m e=2^pl+(c:Rat)) (r:Rnd 2 (2*c-1) mode Y ch):X=Y:=by
 obtain ⟨D,W,y,c1,c2,hD,k1,k2,k3,k4,k5⟩:=h
 have hp:0<M*2^E:=Nat.mul_pos hM0 (Nat.two_pow_pos E)
 have ha:c.natAbs=M*2^E:=by rw [hc];unfold sg;split<;>omega
 have hc0:c≠0:=by omega
 obtain ⟨b1,b2⟩:=lp_bounds k1 hD h0 hm he h1 pl (GG+4300) (by omega) rfl c hc0 (by rw [ha];exact h60) hv
 obtain ⟨d,hd⟩: ∃d,d=pl+58:=⟨_,rfl⟩
 rw [←hd] at b2
 have B:=blw_far neg M E d hM hM0 (by omega) c hc
 have r2:=(blw_two c hc0).rnd B r
 have hA0:st (c*288230376151711744-(c.natAbs:Int)) (2^d)≠0:=fun h=>by
  have:=B.2.2
  rw [h,show cmpI 0 0=0 by decide] at this
  split at this<;>omega
 refine rnd_two k2 k3 r2 r ?_ (st_mono (Nat.two_pow_pos d) hD b2) k4 k5 hA0 (by omega)
 have hq:y.1*pw 1075/(D:Int)<c:=by
  apply Int.ediv_lt_of_lt_mul (by omega)
  rw [pw_nat,←hpl]
  exact b1
 unfold st
 split<;>omega
end Go.Ulp
