/- ExpoLogs: what the proof leans on, part 17 (Gp11 Gp12 Gp13 Gp14 Gp15 Gp16 Gp17 Gp18). -/
import Derived.Test.YtehhegbkahnhgaaGreatDoorKExpoLogs16
set_option linter.unusedVariables false
set_option linter.unusedSimpArgs false
namespace Go.Ulp
theorem bT_step {y:PP} {D:Nat} (hy:y.2≤D) (n:Nat):(beT y D (n+1)).2≤((beT y D n).2+1)/(n+1)+1:=by
 show ((beT y D n).2*y.2/D+1)/(n+1)+1≤_
 have a:(beT y D n).2*y.2/D≤(beT y D n).2:=Nat.div_le_of_le_mul (by rw [Nat.mul_comm D];exact Nat.mul_le_mul_left _ hy)
 exact Nat.add_le_add_right (Nat.div_le_div_right (Nat.add_le_add_right a 1)) 1
theorem bT_top {y:PP} {D:Nat} (hD:5≤D) (hy:y.2≤D): ∀n,(beT y D n).2≤D+2
 |0=>Nat.le_add_right _ _
 |1=>by
  have h:=bT_step hy 0
  have e:(beT y D 0).2=D:=rfl
  rw [e,show 0+1=1 from rfl,Nat.div_one] at h
  exact h
 |n+2=>by
  have ih:=bT_top hD hy (n+1)
  have h:=bT_step hy (n+1)
  have a:((beT y D (n+1)).2+1)/(n+1+1)≤((beT y D (n+1)).2+1)/2:=Nat.div_le_div_left (by omega) (by omega)
  show (beT y D (n+1+1)).2≤_
  omega
theorem bT_wd {y:PP} {D:Nat} (hD:12≤D) (hy:y.2≤D) (h01:y.1≤y.2) (hw:y.2≤y.1+1): ∀n,(beT y D n).2≤(beT y D n).1+8∧(beT y D n).1≤(beT y D n).2
 |0=>⟨Nat.le_add_right _ _,Nat.le_refl _⟩
 |1=>by
  show ((D*y.2/D+1)/(0+1)+1≤D*y.1/D/(0+1)+8)∧D*y.1/D/(0+1)≤(D*y.2/D+1)/(0+1)+1
  rw [Nat.mul_div_cancel_left _ (by omega),Nat.mul_div_cancel_left _ (by omega),show 0+1=1 from rfl,Nat.div_one,Nat.div_one]
  omega
 |n+2=>by
  obtain ⟨ih,il⟩:=bT_wd hD hy h01 hw (n+1)
  have ht:=bT_top (show 5≤D by omega) hy (n+1)
  show ((beT y D (n+1)).2*y.2/D+1)/(n+1+1)+1≤(beT y D (n+1)).1*y.1/D/(n+1+1)+8∧(beT y D (n+1)).1*y.1/D/(n+1+1)≤((beT y D (n+1)).2*y.2/D+1)/(n+1+1)+1
  generalize (beT y D (n+1)).1=l at *
  generalize (beT y D (n+1)).2=h at *
  have hd:=div_lt_succ (l*y.1) D (by omega)
  have m1:h*y.2≤l*y.1+10*D:=by
   have a:=Nat.mul_le_mul ih hw
   have b:(l+8)*(y.1+1)=l*y.1+l+(8*y.1+8):=by rw [Nat.add_mul,Nat.mul_add];omega
   omega
  have q1:h*y.2/D≤l*y.1/D+10:=by
   apply Nat.le_of_lt_succ
   apply (Nat.div_lt_iff_lt_mul (show 0<D by omega)).2
   rw [Nat.succ_mul,Nat.add_mul]
   rw [Nat.add_mul] at hd
   omega
  have q2:l*y.1/D≤h*y.2/D:=Nat.div_le_div_right (Nat.mul_le_mul il h01)
  generalize h*y.2/D=X at *
  generalize l*y.1/D=Y at *
  have hd2:=div_lt_succ Y (n+1+1) (by omega)
  constructor
  ·have:(X+1)/(n+1+1)≤Y/(n+1+1)+6:=by
    apply Nat.le_of_lt_succ
    apply (Nat.div_lt_iff_lt_mul (show 0<n+1+1 by omega)).2
    rw [Nat.succ_mul,Nat.add_mul]
    rw [Nat.add_mul] at hd2
    omega
   omega
  ·exact Nat.le_trans (Nat.div_le_div_right (show Y≤X+1 by omega)) (Nat.le_succ _)
theorem bS_wd {y:PP} {D:Nat} (hD:12≤D) (hy:y.2≤D) (h01:y.1≤y.2) (hw:y.2≤y.1+1): ∀n,(beS y D n).2≤(beS y D n).1+8*(n+1)∧(beS y D n).1≤(beS y D n).2∧D≤(beS y D n).1
 |0=>⟨Nat.le_add_right _ _,Nat.le_refl _,Nat.le_refl _⟩
 |n+1=>by
  obtain ⟨a,b,c⟩:=bS_wd hD hy h01 hw n
  obtain ⟨d,e⟩:=bT_wd hD hy h01 hw (n+1)
  show (beS y D n).2+(beT y D (n+1)).2≤(beS y D n).1+(beT y D (n+1)).1+_∧(beS y D n).1+(beT y D (n+1)).1≤(beS y D n).2+(beT y D (n+1)).2∧D≤(beS y D n).1+(beT y D (n+1)).1
  omega
theorem bMul_wd {a b:PP} {D M w v:Nat} (hD:0<D) (ha:a.1≤a.2) (hb:b.1≤b.2) (wa:a.2≤a.1+w) (wb:b.2≤b.1+v) (ma:a.2≤D*M) (mb:b.2≤D*M):
 (bMul a b D).2≤(bMul a b D).1+(M*(w+v)+2)∧(bMul a b D).1≤(bMul a b D).2:=by
 show a.2*b.2/D+1≤a.1*b.1/D+(M*(w+v)+2)∧a.1*b.1/D≤a.2*b.2/D+1
 constructor
 ·have hd:=div_lt_succ (a.1*b.1) D hD
  have m1:a.2*b.2≤a.1*b.1+D*(M*(w+v)):=by
   obtain ⟨x,hx⟩: ∃x,a.2=a.1+x:=⟨a.2-a.1,by omega⟩
   obtain ⟨z,hz⟩: ∃z,b.2=b.1+z:=⟨b.2-b.1,by omega⟩
   have e:a.2*b.2=a.1*b.1+(a.2*z+x*b.1):=by
    rw [hz,Nat.mul_add,hx,Nat.add_mul a.1 x b.1];omega
   have p:=Nat.mul_le_mul ma (show z≤v by omega)
   have q:=Nat.mul_le_mul (show x≤w by omega) (show b.1≤D*M by omega)
   have r:D*(M*(w+v))=D*M*v+w*(D*M):=by
    rw [Nat.mul_add,Nat.mul_add,←Nat.mul_assoc,←Nat.mul_assoc,Nat.mul_comm w];omega
   omega
  have:a.2*b.2/D≤a.1*b.1/D+M*(w+v):=by
   apply Nat.le_of_lt_succ
   apply (Nat.div_lt_iff_lt_mul hD).2
   rw [Nat.succ_mul,Nat.add_mul,Nat.mul_comm (M*(w+v)) D]
   rw [Nat.add_mul] at hd
   omega
  omega
 ·exact Nat.le_trans (Nat.div_le_div_right (Nat.mul_le_mul ha hb)) (Nat.le_succ _)
theorem bMul_low {a b:PP} {D:Nat} (hD:0<D) (ha:D≤a.1) (hb:D≤b.1):D≤(bMul a b D).1:=by
 show D≤a.1*b.1/D
 rw [Nat.le_div_iff_mul_le hD]
 exact Nat.mul_le_mul ha hb
theorem InD.top {D:Nat} {y:Rat} {x:PP} (hy:0≤y) (h:InD D y x) (q:Nat) (hq:y≤(q:Rat)):x.1≤D*2^(2*q):=by
 obtain ⟨⟨T,a⟩,-⟩:=h
 have d:=EE_bound hy q hq T
 rw [four_pow] at d
 have f:=Rat.mul_le_mul_of_nonneg_left d (Rat.natCast_nonneg (a:=D))
 apply Rat.natCast_le_natCast.1
 rw [cast_mul]
 grind
theorem bPow_low {D:Nat} (hD:0<D) {a:PP} (ha:D≤a.1): ∀(f n:Nat),D≤(bPow a D f n).1
 |0,n=>Nat.le_refl _
 |f+1,n=>by
  unfold bPow
  split
  ·exact Nat.le_refl _
  ·have ih:=bPow_low hD ha f (n/2)
   have p:=bMul_low hD ih ih
   simp only []
   split
   ·exact bMul_low hD p ha
   ·exact p
def frB (r b D:Nat):PP:=(r*D/b,cdiv (r*D) b)
theorem frB_ok (r b D:Nat) (hb:0<b) (hr:r<b):(frB r b D).2≤D∧(frB r b D).1≤(frB r b D).2∧(frB r b D).2≤(frB r b D).1+1:=by
 refine ⟨cdiv_le hb (by rw [Nat.mul_comm];exact Nat.mul_le_mul_left _ (Nat.le_of_lt hr)),?_,?_⟩
 ·show r*D/b≤cdiv (r*D) b
  unfold cdiv;split<;>omega
 ·show cdiv (r*D) b≤r*D/b+1
  unfold cdiv;split<;>omega
theorem frB_in (r b D:Nat) (hb:0<b) (x:Rat) (hx:(b:Rat)*x=(r:Rat)):((frB r b D).1:Rat)≤(D:Rat)*x∧(D:Rat)*x≤((frB r b D).2:Rat):=by
 have a:=fdiv_cast (r*D) b
 have c:=cdiv_cast (r*D) b hb
 have P:(0:Rat)<(b:Rat):=Rat.natCast_pos.2 hb
 rw [cast_mul] at a c
 show ((r*D/b:Nat):Rat)≤_∧_≤((cdiv (r*D) b:Nat):Rat)
 constructor
 ·apply Rat.le_of_mul_le_mul_left _ P
  grind
 ·apply Rat.le_of_mul_le_mul_left _ P
  grind
def eB (N b D n1 n2:Nat):PP:=bMul (bPow (up9 (beS (D,D) D n1)) D (N/b) (N/b)) (up9 (beS (frB (N%b) b D) D n2)) D
theorem frac_parts (N b:Nat) (hb:0<b) (y:Rat) (hy:(b:Rat)*y=(N:Rat)): ∃x:Rat,0≤x∧x≤1∧(b:Rat)*x=((N%b:Nat):Rat)∧y=((N/b:Nat):Rat)+x:=by
 have P:(0:Rat)<(b:Rat):=Rat.natCast_pos.2 hb
 have e:(N:Rat)=(b:Rat)*((N/b:Nat):Rat)+((N%b:Nat):Rat):=by
  rw [←cast_mul,←Rat.natCast_add,Nat.div_add_mod]
 have h0:(0:Rat)≤((N%b:Nat):Rat):=Rat.natCast_nonneg
 have h1:=natle (Nat.le_of_lt (Nat.mod_lt N hb))
 refine ⟨y-((N/b:Nat):Rat),?_,?_,by grind,by grind⟩
 ·exact Rat.le_of_mul_le_mul_left (show (b:Rat)*0≤b*(y-((N/b:Nat):Rat)) by grind) P
 ·exact Rat.le_of_mul_le_mul_left (show (b:Rat)*(y-((N/b:Nat):Rat))≤b*1 by grind) P
theorem eB_low (N b D n1 n2:Nat) (hb:0<b) (hD:12≤D):D≤(eB N b D n1 n2).1:=by
 have a:=(bS_wd hD (y:=(D,D)) (Nat.le_refl _) (Nat.le_refl _) (Nat.le_succ _) n1).2.2
 obtain ⟨f1,f2,f3⟩:=frB_ok (N%b) b D hb (Nat.mod_lt _ hb)
 have c:=(bS_wd hD f1 f2 f3 n2).2.2
 exact bMul_low (by omega) (bPow_low (by omega) (show D≤(up9 (beS (D,D) D n1)).1 from a) _ _) (show D≤(up9 (beS (frB (N%b) b D) D n2)).1 from c)
def conv (f g:Nat→Rat) (n:Nat):Rat:=sumQ (fun i=>f i*g (n-i)) (n+1)
theorem sumQ_cut (f:Nat→Rat) (n:Nat): ∀m,n≤m→sumQ (fun j=>if j<n then f j else 0) m=sumQ f n
 |0,h=>by rw [show n=0 by omega];rfl
 |m+1,h=>by
  by_cases e:n=m+1
  ·rw [←e]
   exact sumQ_congr _ (fun i hi=>by rw [if_pos hi])
  ·rw [sumQ_succ,sumQ_cut f n m (by omega),if_neg (by omega)];grind
theorem conv_swap (f g h:Nat→Rat) (n:Nat):conv f (conv g h) n=conv g (conv f h) n:=by
 have key: ∀f g:Nat→Rat,conv f (conv g h) n=sumQ (fun i=>sumQ (fun j=>if i+j≤n then f i*g j*h (n-(i+j)) else 0) (n+1)) (n+1):=by
  intro f g
  unfold conv
  refine sumQ_congr _ (fun i hi=>?_)
  rw [←sumQ_mul,←sumQ_cut (fun j=>f i*(g j*h (n-i-j))) (n-i+1) (n+1) (by omega)]
  refine sumQ_congr _ (fun j hj=>?_)
  by_cases c:i+j≤n
  ·rw [if_pos c,if_pos (by omega),show n-i-j=n-(i+j) by omega];grind
  ·rw [if_neg c,if_neg (by omega)]
 rw [key f g,key g f,sumQ_swap (fun i j=>if i+j≤n then f i*g j*h (n-(i+j)) else 0)]
 refine sumQ_congr _ (fun j hj=>sumQ_congr _ (fun i hi=>?_))
 rw [Nat.add_comm i j]
 split<;>grind
def dx (f:Nat→Rat) (n:Nat):Rat:=(n:Rat)*f n
theorem dx_conv (f g:Nat→Rat) (n:Nat):dx (conv f g) n=conv (dx f) g n+conv f (dx g) n:=by
 unfold dx conv
 rw [←sumQ_mul,←sumQ_add]
 refine sumQ_congr _ (fun i hi=>?_)
 have e:(n:Rat)=(i:Rat)+((n-i:Nat):Rat):=by rw [←Rat.natCast_add];congr 1;omega
 rw [e];grind
theorem conv_smul (c:Rat) (f g:Nat→Rat) (n:Nat):conv f (fun i=>c*g i) n=c*conv f g n:=by
 unfold conv
 rw [←sumQ_mul]
 exact sumQ_congr _ (fun i _=>by grind)
theorem conv_congr {f f' g g':Nat→Rat} {n:Nat} (hf: ∀i,i≤n→f i=f' i) (hg: ∀i,i≤n→g i=g' i):conv f g n=conv f' g' n:=by
 unfold conv
 exact sumQ_congr _ (fun i hi=>by rw [hf i (by omega),hg (n-i) (by omega)])
theorem conv_le {f f' g g':Nat→Rat} {n:Nat} (hf0: ∀i,0≤f i) (hg0: ∀i,0≤g i) (hf: ∀i,f i≤f' i) (hg: ∀i,g i≤g' i):conv f g n≤conv f' g' n:=by
 unfold conv
 exact sumQ_le _ (fun i hi=>mul_le_mul2 (hf0 i) (hf i) (hg0 _) (hg _))
theorem conv_nonneg {f g:Nat→Rat} (hf: ∀i,0≤f i) (hg: ∀i,0≤g i) (n:Nat):0≤conv f g n:=sumQ_nonneg _ (fun i _=>Rat.mul_nonneg (hf i) (hg _))
def pwS (a:Nat→Rat):Nat→Nat→Rat
 |0=>fun n=>if n=0 then 1 else 0
 |s+1=>fun n=>conv a (pwS a s) n/((s+1:Nat):Rat)
theorem pwS_succ (a:Nat→Rat) (s n:Nat):((s+1:Nat):Rat)*pwS a (s+1) n=conv a (pwS a s) n:=by
 have:=nat_ne s
 simp only [pwS];grind
theorem pwS_nonneg {a:Nat→Rat} (ha: ∀i,0≤a i): ∀s n,0≤pwS a s n
 |0,n=>by simp only [pwS];split<;>grind
 |s+1,n=>by simp only [pwS];exact div_nonneg' (conv_nonneg ha (pwS_nonneg ha s) n) (nat_pos s)
theorem pwS_le {a b:Nat→Rat} (ha: ∀i,0≤a i) (h: ∀i,a i≤b i): ∀s n,pwS a s n≤pwS b s n
 |0,n=>by simp only [pwS];grind
 |s+1,n=>by
  have e:=conv_le (n:=n) ha (pwS_nonneg ha s) h (pwS_le ha h s)
  have p:=pwS_succ a s n
  have q:=pwS_succ b s n
  exact Rat.le_of_mul_le_mul_left (show ((s+1:Nat):Rat)*pwS a (s+1) n≤((s+1:Nat):Rat)*pwS b (s+1) n by grind) (nat_pos s)
theorem pwS_congr {a b:Nat→Rat} {m:Nat} (h: ∀i,i≤m→a i=b i): ∀s n,n≤m→pwS a s n=pwS b s n
 |0,n,_=>rfl
 |s+1,n,hn=>by
  simp only [pwS]
  rw [conv_congr (n:=n) (fun i hi=>h i (by omega)) (fun i hi=>pwS_congr h s i (by omega))]
theorem pwS_low {a:Nat→Rat} (h0:a 0=0): ∀s n,n<s→pwS a s n=0
 |0,n,h=>by omega
 |s+1,n,h=>by
  have e:conv a (pwS a s) n=0:=by
   unfold conv
   rw [sumQ_congr (g:=fun _=>0) _ (fun i hi=>?_),sumQ_none]
   by_cases hi0:i=0
   ·rw [hi0,h0];grind
   ·rw [pwS_low h0 s (n-i) (by omega)];grind
  have p:=pwS_succ a s n
  rw [e] at p
  have:=nat_ne s
  grind
theorem pwS_dx (a:Nat→Rat): ∀s n,dx (pwS a (s+1)) n=conv (dx a) (pwS a s) n
 |0,n=>by
  have e: ∀n,pwS a 1 n=a n:=by
   intro n
   have p:=pwS_succ a 0 n
   have o:((0+1:Nat):Rat)=1:=rfl
   rw [o] at p
   have c:conv a (pwS a 0) n=a n:=by
    unfold conv
    rw [sumQ_succ,sumQ_congr (g:=fun _=>0) n (fun i hi=>by simp only [pwS];rw [if_neg (by omega)];grind),sumQ_none,Nat.sub_self]
    simp only [pwS,if_true];grind
   rw [c] at p
   grind
  have c:conv (dx a) (pwS a 0) n=dx a n:=by
   unfold conv
   rw [sumQ_succ,sumQ_congr (g:=fun _=>0) n (fun i hi=>by simp only [pwS];rw [if_neg (by omega)];grind),sumQ_none,Nat.sub_self]
   simp only [pwS,if_true];grind
  rw [c]
  unfold dx
  rw [show 0+1=1 from rfl,e n]
 |s+1,n=>by
  have ih:=pwS_dx a s
  apply cancel_nat (s+1)
  have e1:((s+1+1:Nat):Rat)*dx (pwS a (s+1+1)) n=dx (conv a (pwS a (s+1))) n:=by
   unfold dx
   have p:=pwS_succ a (s+1) n
   rw [←p];grind
  rw [e1,dx_conv]
  have e2:conv a (dx (pwS a (s+1))) n=((s+1:Nat):Rat)*conv (dx a) (pwS a (s+1)) n:=by
   rw [conv_congr (f':=a) (g':=conv (dx a) (pwS a s)) (fun _ _=>rfl) (fun i _=>ih i),conv_swap,←conv_smul]
   exact conv_congr (fun _ _=>rfl) (fun i _=>(pwS_succ a s i).symm)
  rw [e2,cast_succ (s+1)]
  grind
def exS (a:Nat→Rat) (T n:Nat):Rat:=sumQ (fun s=>pwS a s n) T
theorem exS_end {a:Nat→Rat} (h0:a 0=0) (n:Nat): ∀d,exS a (n+1+d) n=exS a (n+1) n
 |0=>rfl
 |d+1=>by
  have ih:=exS_end h0 n d
  unfold exS at ih ⊢
  rw [show n+1+(d+1)=n+1+d+1 by omega,sumQ_succ,ih,pwS_low h0 _ _ (by omega)]
  grind
theorem exS_rec {a:Nat→Rat} (h0:a 0=0) (n:Nat):(n:Rat)*exS a (n+1) n=conv (dx a) (fun j=>exS a (j+1) j) n:=by
 have e1:(n:Rat)*exS a (n+1) n=sumQ (fun s=>dx (pwS a s) n) (n+1):=by
  unfold exS dx;rw [←sumQ_mul]
 rw [e1,sumQ_head]
 have e2:dx (pwS a 0) n=0:=by
  unfold dx;simp only [pwS]
  by_cases h:n=0
  ·rw [h];have:((0:Nat):Rat)=0:=rfl
   rw [this];grind
  ·rw [if_neg h];grind
 rw [e2,Rat.zero_add,sumQ_congr (g:=fun s=>conv (dx a) (pwS a s) n) n (fun s _=>pwS_dx a s n)]
 unfold conv
 rw [sumQ_swap (fun s i=>dx a i*pwS a s (n-i))]
 refine sumQ_congr _ (fun i hi=>?_)
 rw [sumQ_mul]
 by_cases hi0:i=0
 ·rw [hi0]
  have:dx a 0=0:=by unfold dx;have:((0:Nat):Rat)=0:=rfl
                    rw [this];grind
  rw [this];grind
 ·congr 1
  have:=exS_end h0 (n-i) (i-1)
  unfold exS at this ⊢
  rw [show n-i+1+(i-1)=n by omega] at this
  exact this
def atA (i:Nat):Rat:=if i%2=1 then 2/(i:Rat) else 0
def atF (n:Nat):Rat:=if n=0 then 1 else 2
def od2 (i:Nat):Rat:=if i%2=1 then 2 else 0
theorem dx_atA (i:Nat):dx atA i=od2 i:=by
 unfold dx atA od2
 split
 ·rename_i h
  have:(i:Rat)≠0:=fun e=>by
   have:=Rat.natCast_eq_zero_iff.1 e
   omega
  grind
 ·grind
theorem atF_conv: ∀n,conv od2 atF n=2*(n:Rat)
 |0=>by
  unfold conv
  have:((0:Nat):Rat)=0:=rfl
  rw [this]
  simp only [sumQ,od2,atF];grind
 |n+1=>by
  have ih:=atF_conv n
  have e:conv od2 atF (n+1)=conv od2 atF n+od2 n+od2 (n+1):=by
   unfold conv
   rw [sumQ_succ,Nat.sub_self]
   have a:sumQ (fun i=>od2 i*atF (n+1-i)) (n+1)=sumQ (fun i=>od2 i*atF (n-i)) (n+1)+od2 n:=by
    rw [sumQ_succ,sumQ_succ,sumQ_congr (f:=fun i=>od2 i*atF (n+1-i)) (g:=fun i=>od2 i*atF (n-i)) n (fun i hi=>by
     unfold atF;rw [if_neg (by omega),if_neg (by omega)])]
    have b1:atF (n+1-n)=2:=by unfold atF;rw [if_neg (by omega)]
    have b2:atF (n-n)=1:=by unfold atF;rw [if_pos (by omega)]
    rw [b1,b2];grind
   have b3:atF 0=1:=rfl
   rw [a,b3];grind
  have f:od2 n+od2 (n+1)=2:=by
   unfold od2
   by_cases h:n%2=1
   ·rw [if_pos h,if_neg (by omega)];grind
   ·rw [if_neg h,if_pos (by omega)];grind
  rw [e,ih,cast_succ];grind
theorem atA_zero:atA 0=0:=by unfold atA;rw [if_neg (by omega)]
theorem atA_nonneg (i:Nat):0≤atA i:=by
 unfold atA
 split
 ·rename_i h
  exact div_nonneg' (by grind) (Rat.natCast_pos.2 (by omega))
 ·grind
theorem conv_zero {f g g':Nat→Rat} {n:Nat} (hf:f 0=0) (hg: ∀i,i<n→g i=g' i):conv f g n=conv f g' n:=by
 unfold conv
 rw [sumQ_head,sumQ_head,hf]
 rw [sumQ_congr (f:=fun i=>f (i+1)*g (n-(i+1))) (g:=fun i=>f (i+1)*g' (n-(i+1))) n (fun i hi=>by rw [hg (n-(i+1)) (by omega)])]
 grind
theorem exS_atF (n:Nat):exS atA (n+1) n=atF n:=by
 induction n using Nat.strongRecOn with
 |ind n ih=>
  cases n with
  |zero=>unfold exS atF;simp only [sumQ,pwS];grind
  |succ n=>
   have h:=exS_rec atA_zero (n+1)
   rw [conv_congr (f':=od2) (g':=fun j=>exS atA (j+1) j) (fun i _=>dx_atA i) (fun i _=>rfl),conv_zero (g':=atF) (by unfold od2;rw [if_neg (by omega)]) (fun i hi=>ih i (by omega))] at h
   rw [atF_conv] at h
   have e:atF (n+1)=2:=by unfold atF;rw [if_neg (by omega)]
   rw [e]
   apply cancel_nat n
   grind
def atN (N i:Nat):Rat:=if i<2*N then atA i else 0
theorem atN_nonneg (N i:Nat):0≤atN N i:=by
 unfold atN;split
 ·exact atA_nonneg i
 ·grind
theorem atN_le (N i:Nat):atN N i≤atA i:=by
 unfold atN;split
 ·grind
 ·exact atA_nonneg i
theorem exS_mono {a:Nat→Rat} (ha: ∀i,0≤a i) (n:Nat) {T S:Nat} (h:T≤S):exS a T n≤exS a S n:=sumQ_mono (fun s=>pwS_nonneg ha s n) h
theorem exS_le (N T n:Nat):exS (atN N) T n≤atF n:=by
 have a:exS (atN N) T n≤exS atA T n:=sumQ_le _ (fun s _=>pwS_le (atN_nonneg N) (atN_le N) s n)
 have b:=exS_mono atA_nonneg n (show T≤n+1+T by omega)
 rw [exS_end atA_zero n T,exS_atF] at b
 grind
theorem exS_eq (N T n:Nat) (hn:n<2*N) (hT:n+1≤T):exS (atN N) T n=atF n:=by
 have h0:atN N 0=0:=by unfold atN;rw [if_pos (by omega)];exact atA_zero
 have b:=exS_end h0 n (T-(n+1))
 rw [show n+1+(T-(n+1))=T by omega] at b
 rw [b,←exS_atF n]
 unfold exS
 exact sumQ_congr _ (fun s _=>pwS_congr (m:=n) (fun i hi=>by unfold atN;rw [if_pos (by omega)]) s n (Nat.le_refl n))
def at' (f:Nat→Rat) (z:Rat) (n:Nat):Rat:=f n*z^n
theorem at_conv (f g:Nat→Rat) (z:Rat) (n:Nat):sumQ (fun i=>at' f z i*at' g z (n-i)) (n+1)=conv f g n*z^n:=by
 unfold conv
 rw [sumQ_mul_right]
 refine sumQ_congr _ (fun i hi=>?_)
 unfold at'
 have e:z^n=z^i*z^(n-i):=by
  have: ∀j,z^(i+j)=z^i*z^j:=by
   intro j
   induction j with
   |zero=>rw [Rat.pow_zero,Nat.add_zero];grind
   |succ j ih=>rw [←Nat.add_assoc,Rat.pow_succ,Rat.pow_succ,ih];grind
  rw [←this];congr 1;omega
 rw [e];grind
theorem cv_at (f g:Nat→Rat) (z:Rat): ∀M,cv (at' f z) (at' g z) M=sumQ (at' (conv f g) z) M
 |0=>rfl
 |M+1=>by
  rw [cv_succ,cv_at f g z M,at_conv];rfl
theorem at_nonneg {f:Nat→Rat} {z:Rat} (hf: ∀i,0≤f i) (hz:0≤z) (n:Nat):0≤at' f z n:=Rat.mul_nonneg (hf n) (Rat.pow_nonneg hz)
def lnN (z:Rat) (N:Nat):Rat:=sumQ (at' (atN N) z) (2*N)
theorem lnN_all (z:Rat) (N M:Nat) (h:2*N≤M):sumQ (at' (atN N) z) M=lnN z N:=by
 unfold lnN
 induction M with
 |zero=>rw [show 2*N=0 by omega]
 |succ M ih=>
  by_cases e:2*N=M+1
  ·rw [e]
  ·rw [sumQ_succ,ih (by omega)]
   have:at' (atN N) z M=0:=by unfold at' atN;rw [if_neg (by omega)];grind
   rw [this];grind
theorem lnN_nonneg (z:Rat) (hz:0≤z) (N:Nat):0≤lnN z N:=sumQ_nonneg _ (fun i _=>at_nonneg (atN_nonneg N) hz i)
theorem lnN_part (z:Rat) (hz:0≤z) (N M:Nat):sumQ (at' (atN N) z) M≤lnN z N:=by
 have a:=sumQ_mono (fun i=>at_nonneg (atN_nonneg N) hz i) (show M≤M+2*N by omega)
 rw [lnN_all z N (M+2*N) (by omega)] at a
 exact a
theorem at_pow_le (z:Rat) (hz:0≤z) (N:Nat): ∀s M,sumQ (at' (pwS (atN N) s) z) M≤ep (lnN z N) s
 |0,M=>by
  have e0:ep (lnN z N) 0=1:=rfl
  rw [e0]
  have: ∀M,sumQ (at' (pwS (atN N) 0) z) (M+1)=1:=by
   intro M
   induction M with
   |zero=>simp only [sumQ,at',pwS];rw [Rat.pow_zero];grind
   |succ M ih=>
    rw [sumQ_succ,ih]
    unfold at';simp only [pwS];rw [if_neg (by omega)];grind
  have a:=sumQ_mono (fun i=>at_nonneg (pwS_nonneg (atN_nonneg N) 0) hz i) (show M≤M+1 by omega)
  rw [this M] at a
  exact a
 |s+1,M=>by
  have ih:=at_pow_le z hz N s M
  have a:=cv_le (at_nonneg (atN_nonneg N) hz) (at_nonneg (pwS_nonneg (atN_nonneg N) s) hz) M
  rw [cv_at] at a
  have b:=mul_le_mul2 (sumQ_nonneg M (fun i _=>at_nonneg (atN_nonneg N) hz i)) (lnN_part z hz N M) (sumQ_nonneg M (fun i _=>at_nonneg (pwS_nonneg (atN_nonneg N) s) hz i)) ih
  have c:=ep_succ (lnN z N) s
  have d:((s+1:Nat):Rat)*sumQ (at' (pwS (atN N) (s+1)) z) M=sumQ (at' (conv (atN N) (pwS (atN N) s)) z) M:=by
   rw [←sumQ_mul]
   refine sumQ_congr _ (fun i _=>?_)
   unfold at'
   rw [←pwS_succ];grind
  exact Rat.le_of_mul_le_mul_left (show ((s+1:Nat):Rat)*_≤((s+1:Nat):Rat)*_ by rw [d,c];grind) (nat_pos s)
theorem at_pow_ge (z:Rat) (hz:0≤z) (N:Nat): ∀s,∃M0,∀M,M0≤M→ep (lnN z N) s≤sumQ (at' (pwS (atN N) s) z) M
 |0=>⟨1,fun M hM=>by
  have a:=sumQ_mono (fun i=>at_nonneg (pwS_nonneg (atN_nonneg N) 0) hz i) hM
  have e:sumQ (at' (pwS (atN N) 0) z) 1=1:=by simp only [sumQ,at',pwS];rw [Rat.pow_zero];grind
  have e0:ep (lnN z N) 0=1:=rfl
  rw [e0];grind⟩
 |s+1=>by
  obtain ⟨M0,ih⟩:=at_pow_ge z hz N s
  refine ⟨(M0+2*N)+(M0+2*N),fun M hM=>?_⟩
  have i1:=ih (M0+2*N) (by omega)
  have a:=cv_ge (at_nonneg (atN_nonneg N) hz) (at_nonneg (pwS_nonneg (atN_nonneg N) s) hz) (M0+2*N)
  rw [cv_at,lnN_all z N _ (by omega)] at a
  have b:=sumQ_mono (fun i=>at_nonneg (conv_nonneg (atN_nonneg N) (pwS_nonneg (atN_nonneg N) s)) hz i) hM
  have c:=ep_succ (lnN z N) s
  have e:=Rat.mul_le_mul_of_nonneg_left i1 (lnN_nonneg z hz N)
  have d:((s+1:Nat):Rat)*sumQ (at' (pwS (atN N) (s+1)) z) M=sumQ (at' (conv (atN N) (pwS (atN N) s)) z) M:=by
   rw [←sumQ_mul]
   refine sumQ_congr _ (fun i _=>?_)
   unfold at'
   rw [←pwS_succ];grind
  exact Rat.le_of_mul_le_mul_left (show ((s+1:Nat):Rat)*_≤((s+1:Nat):Rat)*_ by rw [d,c];grind) (nat_pos s)
theorem at_ex (z:Rat) (N T M:Nat):sumQ (fun s=>sumQ (at' (pwS (atN N) s) z) M) T=sumQ (fun n=>exS (atN N) T n*z^n) M:=by
 rw [sumQ_swap (fun s n=>at' (pwS (atN N) s) z n)]
 refine sumQ_congr _ (fun n _=>?_)
 unfold exS
 rw [sumQ_mul_right];rfl
theorem geo (z:Rat): ∀M,(1-z)*sumQ (at' atF z) (M+1)=1+z-2*z^(M+1)
 |0=>by
  simp only [sumQ,at',atF];rw [Rat.pow_zero,Rat.pow_succ,Rat.pow_zero];grind
 |M+1=>by
  have ih:=geo z M
  rw [sumQ_succ]
  have e:at' atF z (M+1)=2*z^(M+1):=by unfold at' atF;rw [if_neg (by omega)]
  rw [e,Rat.pow_succ z (M+1)]
  grind
theorem ln_up (z:Rat) (hz:0≤z) (hz1:z≤1) (N T:Nat):(1-z)*EE (lnN z N) T≤1+z:=by
 have key: ∀T,∃M0,∀M,M0≤M→EE (lnN z N) T≤sumQ (fun s=>sumQ (at' (pwS (atN N) s) z) M) T:=by
  intro T
  induction T with
  |zero=>exact ⟨0,fun M _=>by unfold EE;rw [sumQ_zero,sumQ_zero];grind⟩
  |succ T ih=>
   obtain ⟨A,hA⟩:=ih
   obtain ⟨B,hB⟩:=at_pow_ge z hz N T
   refine ⟨A+B,fun M hM=>?_⟩
   have a:=hA M (by omega)
   have b:=hB M (by omega)
   unfold EE at a ⊢
   rw [sumQ_succ,sumQ_succ];grind
 obtain ⟨M0,h⟩:=key T
 have a:=h (M0+1) (by omega)
 rw [at_ex] at a
 have b:sumQ (fun n=>exS (atN N) T n*z^n) (M0+1)≤sumQ (at' atF z) (M0+1):=sumQ_le _ (fun n _=>Rat.mul_le_mul_of_nonneg_right (exS_le N T n) (Rat.pow_nonneg hz))
 have c:=geo z M0
 have d:=Rat.mul_le_mul_of_nonneg_left (show EE (lnN z N) T≤sumQ (at' atF z) (M0+1) by grind) (show 0≤1-z by grind)
 have e:=Rat.pow_nonneg (n:=M0+1) hz
 grind
theorem ln_low (z:Rat) (hz:0≤z) (hz1:z≤1) (N T:Nat) (hN:1≤N) (hT:2*N≤T):1+z-2*z^(2*N)≤(1-z)*EE (lnN z N) T:=by
 have a:sumQ (fun s=>sumQ (at' (pwS (atN N) s) z) (2*N)) T≤EE (lnN z N) T:=sumQ_le _ (fun s _=>at_pow_le z hz N s (2*N))
 rw [at_ex,sumQ_congr (g:=at' atF z) (2*N) (fun n hn=>by rw [exS_eq N T n hn (by omega)];rfl)] at a
 have c:=geo z (2*N-1)
 rw [show 2*N-1+1=2*N by omega] at c
 have d:=Rat.mul_le_mul_of_nonneg_left a (show 0≤1-z by grind)
 grind
def ExpTo (u:Nat→Rat) (D:Rat):Prop:=(∀N,0≤u N)∧(∀N T,EE (u N) T≤D)∧ ∀e:Rat,0<e→ ∃N0,∀N,N0≤N→ ∃T0,∀T,T0≤T→D-e≤EE (u N) T
def Near (u v:Nat→Rat):Prop:= ∀e:Rat,0<e→ ∃N0,∀N,N0≤N→ -e≤u N-v N∧u N-v N≤e
theorem EE_diff {x y:Rat} (hx:0≤x) (h:x≤y): ∀T,y-x≤EE y (T+2)-EE x (T+2)
 |0=>by rw [EE_two,EE_two];grind
 |T+1=>by
  have ih:=EE_diff hx h T
  have a:=ep_mono hx h (T+2)
  have e1:EE y (T+1+2)=EE y (T+2)+ep y (T+2):=rfl
  have e2:EE x (T+1+2)=EE x (T+2)+ep x (T+2):=rfl
  rw [e1,e2];grind
theorem ExpTo.uniq {u v:Nat→Rat} {D:Rat} (h:ExpTo u D) (k:ExpTo v D):Near u v:=by
 intro e he
 obtain ⟨h0,h1,h2⟩:=h
 obtain ⟨k0,k1,k2⟩:=k
 obtain ⟨A,hA⟩:=h2 e he
 obtain ⟨B,hB⟩:=k2 e he
 refine ⟨A+B,fun N hN=>?_⟩
 obtain ⟨S,hS⟩:=hA N (by omega)
 obtain ⟨T,hT⟩:=hB N (by omega)
 have a:=hS (S+T+2) (by omega)
 have b:=hT (S+T+2) (by omega)
 have c:=h1 N (S+T+2)
 have d:=k1 N (S+T+2)
 constructor
 ·by_cases g:u N≤v N
  ·have:=EE_diff (h0 N) g (S+T);grind
  ·grind
 ·by_cases g:v N≤u N
  ·have:=EE_diff (k0 N) g (S+T);grind
  ·grind
theorem ExpTo.one_le {u:Nat→Rat} {D:Rat} (h:ExpTo u D):1≤D:=by
 have a:=h.2.1 0 1
 have b:=EE_ge_one (h.1 0) (Nat.le_refl 1)
 grind
theorem ExpTo.zero:ExpTo (fun _=>0) 1:=by
 have e: ∀T,EE 0 (T+1)=1:=by
  intro T
  induction T with
  |zero=>unfold EE;simp only [sumQ,ep];grind
  |succ T ih=>
   unfold EE at ih ⊢
   rw [sumQ_succ,ih,ep];grind
 refine ⟨fun _=>by grind,fun N T=>?_,fun e' he=>⟨0,fun N _=>⟨1,fun T hT=>?_⟩⟩⟩
 ·have a:=EE_le 0 (by grind) (show T≤T+1 by omega)
  rw [e T] at a;exact a
 ·rw [show T=T-1+1 by omega,e];grind
theorem ExpTo.add {u v:Nat→Rat} {D E:Rat} (h:ExpTo u D) (k:ExpTo v E):ExpTo (fun N=>u N+v N) (D*E):=by
 have hD:=h.one_le
 have hE:=k.one_le
 obtain ⟨h0,h1,h2⟩:=h
 obtain ⟨k0,k1,k2⟩:=k
 refine ⟨fun N=>by have:=h0 N;have:=k0 N;grind,fun N T=>?_,fun e he=>?_⟩
 ·have a:=EE_add_le (u N) (v N) (h0 N) (k0 N) T
  have b:=mul_le_mul2 (EE_nonneg _ (h0 N) T) (h1 N T) (EE_nonneg _ (k0 N) T) (k1 N T)
  grind
 ·obtain ⟨e',he'⟩: ∃e':Rat,e'=e/(D+E):=⟨_,rfl⟩
  have hs:0<D+E:=by grind
  have hm:(D+E)*e'=e:=by rw [he'];grind
  have he0:0<e':=Rat.not_le.1 (fun hle=>by
   have:=Rat.mul_le_mul_of_nonneg_left hle (show 0≤D+E by grind)
   grind)
  obtain ⟨t,ht⟩: ∃t:Rat,t=if e'≤1 then e' else 1:=⟨_,rfl⟩
  have t0:0<t:=by rw [ht];split<;>grind
  have t1:t≤1:=by rw [ht];split<;>grind
  have t2:t≤e':=by rw [ht];split<;>grind
  obtain ⟨A,hA⟩:=h2 t t0
  obtain ⟨B,hB⟩:=k2 t t0
  refine ⟨A+B,fun N hN=>?_⟩
  obtain ⟨S,hS⟩:=hA N (by omega)
  obtain ⟨T,hT⟩:=hB N (by omega)
  refine ⟨(S+T)+(S+T),fun R hR=>?_⟩
  have a:=hS (S+T) (by omega)
  have b:=hT (S+T) (by omega)
  have c:=EE_add_ge (u N) (v N) (h0 N) (k0 N) (S+T)
  have d:=EE_le (u N+v N) (by have:=h0 N;have:=k0 N;grind) hR
  have f:=mul_le_mul2 (show 0≤D-t by grind) a (show 0≤E-t by grind) b
  have g:=Rat.mul_le_mul_of_nonneg_left t2 (show 0≤D+E by grind)
  have tt:=Rat.mul_nonneg (show 0≤t by grind) (show 0≤t by grind)
  grind
theorem ExpTo.smul {u:Nat→Rat} {D:Rat} (h:ExpTo u D): ∀k:Nat,ExpTo (fun N=>(k:Rat)*u N) (D^k)
 |0=>by
  have e:(fun N=>((0:Nat):Rat)*u N)=fun _=>0:=by
   funext N
   have:((0:Nat):Rat)=0:=rfl
   rw [this];grind
  rw [e,Rat.pow_zero];exact ExpTo.zero
 |k+1=>by
  have ih:=(ExpTo.smul h k).add h
  have e:(fun N=>((k+1:Nat):Rat)*u N)=fun N=>(k:Rat)*u N+u N:=by
   funext N;rw [cast_succ];grind
  rw [e,Rat.pow_succ];exact ih
theorem pow_half (z:Rat) (hz:0≤z) (h:2*z≤1): ∀n:Nat,((n+1:Nat):Rat)*z^n≤1
 |0=>by rw [Rat.pow_zero];have:((0+1:Nat):Rat)=1:=rfl
        rw [this];grind
 |n+1=>by
  have ih:=pow_half z hz h n
  have p:=Rat.pow_nonneg (n:=n) hz
  have a:=Rat.mul_le_mul_of_nonneg_left h p
  have b:=natle (show n+1+1≤2*(n+1) by omega)
  rw [cast_mul] at b
  have o:((2:Nat):Rat)=2:=rfl
  rw [o] at b
  have c:=Rat.mul_le_mul_of_nonneg_right b (show 0≤z^(n+1) from Rat.pow_nonneg hz)
  have d:=Rat.mul_le_mul_of_nonneg_left a (Rat.natCast_nonneg (a:=n+1))
  rw [Rat.pow_succ] at c ⊢
  grind
theorem lnN_to (z D:Rat) (hz:0≤z) (h:2*z≤1) (hD:(1-z)*D=1+z):ExpTo (lnN z) D:=by
 have hz1:z≤1:=by grind
 have hp:0<1-z:=by grind
 refine ⟨lnN_nonneg z hz,fun N T=>?_,fun e he=>?_⟩
 ·have a:=ln_up z hz hz1 N T
  exact Rat.le_of_mul_le_mul_left (show (1-z)*EE (lnN z N) T≤(1-z)*D by grind) hp
 ·-- 4 z^(2N) <= e as soon as N is great
  obtain ⟨n,hn⟩: ∃n:Nat,4≤((n+1:Nat):Rat)*e:=by
   obtain ⟨n,hn⟩: ∃n:Nat,4/e≤(n:Rat):=⟨(4/e).ceil.toNat,by
    have a:4/e≤(((4/e).ceil:Int):Rat):=Rat.le_ceil
    have b:(4/e).ceil≤(((4/e).ceil.toNat:Nat):Int):=by omega
    have c:=Rat.intCast_le_intCast.2 b
    rw [Rat.intCast_natCast] at c
    grind⟩
   refine ⟨n,?_⟩
   have a:=Rat.mul_le_mul_of_nonneg_right hn (show 0≤e by grind)
   rw [cast_succ]
   have b:4/e*e=4:=by grind
   grind
  refine ⟨n+1,fun N hN=>⟨2*N,fun T hT=>?_⟩⟩
  have a:=ln_low z hz hz1 N T (by omega) hT
  have b:=pow_half z hz h (2*N)
  have p:=Rat.pow_nonneg (n:=2*N) hz
  have c:=Rat.mul_le_mul_of_nonneg_right (natle (show n+1≤2*N+1 by omega)) p
  have d:((n+1:Nat):Rat)*(4*z^(2*N))≤((n+1:Nat):Rat)*e:=by grind
  have f:4*z^(2*N)≤e:=Rat.le_of_mul_le_mul_left d (nat_pos n)
  have g:(1-z)*(D-e)≤(1-z)*EE (lnN z N) T:=by
   have k:=Rat.mul_le_mul_of_nonneg_right (show 1≤2*(1-z) by grind) (show 0≤e by grind)
   grind
  exact Rat.le_of_mul_le_mul_left g hp
theorem Near.add {u v u' v':Nat→Rat} (h:Near u v) (k:Near u' v'):Near (fun N=>u N+u' N) (fun N=>v N+v' N):=by
 intro e he
 obtain ⟨A,hA⟩:=h (e/2) (by grind)
 obtain ⟨B,hB⟩:=k (e/2) (by grind)
 refine ⟨A+B,fun N hN=>?_⟩
 have a:=hA N (by omega)
 have b:=hB N (by omega)
 constructor<;>grind
theorem Near.neg {u v:Nat→Rat} (h:Near u v):Near (fun N=> -u N) (fun N=> -v N):=by
 intro e he
 obtain ⟨A,hA⟩:=h e he
 exact ⟨A,fun N hN=>by have a:=hA N hN;constructor<;>grind⟩
theorem Near.symm {u v:Nat→Rat} (h:Near u v):Near v u:=by
 intro e he
 obtain ⟨A,hA⟩:=h e he
 exact ⟨A,fun N hN=>by have a:=hA N hN;constructor<;>grind⟩
theorem Near.refl (u:Nat→Rat):Near u u:=fun e he=>⟨0,fun N _=>by constructor<;>grind⟩
theorem Near.trans {u v w:Nat→Rat} (h:Near u v) (k:Near v w):Near u w:=by
 intro e he
 obtain ⟨A,hA⟩:=h (e/2) (by grind)
 obtain ⟨B,hB⟩:=k (e/2) (by grind)
 refine ⟨A+B,fun N hN=>?_⟩
 have a:=hA N (by omega)
 have b:=hB N (by omega)
 constructor<;>grind
theorem Near.smul {u v:Nat→Rat} (h:Near u v) (k:Nat):Near (fun N=>(k:Rat)*u N) (fun N=>(k:Rat)*v N):=by
 induction k with
 |zero=>
  intro e he
  refine ⟨0,fun N _=>?_⟩
  have:((0:Nat):Rat)=0:=rfl
  rw [this]
  constructor<;>grind
 |succ k ih=>
  have:=ih.add h
  intro e he
  obtain ⟨A,hA⟩:=this e he
  refine ⟨A,fun N hN=>?_⟩
  have a:=hA N hN
  rw [cast_succ]
  constructor<;>grind
def LogTo (u:Nat→Rat) (D:Rat):Prop:= ∃(a b:Nat→Rat) (A B:Rat),ExpTo a A∧ExpTo b B∧A=D*B∧ ∀N,u N=a N-b N
theorem LogTo.uniq {u v:Nat→Rat} {D:Rat} (h:LogTo u D) (k:LogTo v D):Near u v:=by
 obtain ⟨a,b,A,B,ha,hb,e,hu⟩:=h
 obtain ⟨a',b',A',B',ha',hb',e',hv⟩:=k
 have x:=ha.add hb'
 have y:=ha'.add hb
 have ee:A*B'=A'*B:=by rw [e,e'];grind
 rw [ee] at x
 have n:=x.uniq y
 intro ε hε
 obtain ⟨N0,hN⟩:=n ε hε
 refine ⟨N0,fun N h=>?_⟩
 have:=hN N h
 rw [hu,hv];constructor<;>grind
theorem LogTo.of_exp {u:Nat→Rat} {D:Rat} (h:ExpTo u D):LogTo u D:=⟨u,fun _=>0,D,1,h,ExpTo.zero,by grind,fun N=>by grind⟩
theorem LogTo.neg {u:Nat→Rat} {D E:Rat} (h:LogTo u D) (e:D*E=1):LogTo (fun N=> -u N) E:=by
 obtain ⟨a,b,A,B,ha,hb,e1,hu⟩:=h
 exact ⟨b,a,B,A,hb,ha,by rw [e1];grind,fun N=>by show -u N=_;rw [hu];grind⟩
theorem LogTo.add {u v:Nat→Rat} {D E:Rat} (h:LogTo u D) (k:LogTo v E):LogTo (fun N=>u N+v N) (D*E):=by
 obtain ⟨a,b,A,B,ha,hb,e,hu⟩:=h
 obtain ⟨a',b',A',B',ha',hb',e',hv⟩:=k
 exact ⟨_,_,_,_,ha.add ha',hb.add hb',by rw [e,e'];grind,fun N=>by show u N+v N=a N+a' N-(b N+b' N);rw [hu,hv];grind⟩
theorem LogTo.smul {u:Nat→Rat} {D:Rat} (h:LogTo u D) (k:Nat):LogTo (fun N=>(k:Rat)*u N) (D^k):=by
 obtain ⟨a,b,A,B,ha,hb,e,hu⟩:=h
 refine ⟨_,_,_,_,ha.smul k,hb.smul k,?_,fun N=>by show (k:Rat)*u N=(k:Rat)*a N-(k:Rat)*b N;rw [hu];grind⟩
 rw [e]
 clear ha hb hu e
 induction k with
 |zero=>rw [Rat.pow_zero,Rat.pow_zero,Rat.pow_zero];grind
 |succ k ih=>rw [Rat.pow_succ,Rat.pow_succ,Rat.pow_succ,ih];grind
theorem LogTo.congr {u v:Nat→Rat} {D E:Rat} (h:LogTo u D) (e: ∀N,v N=u N) (hD:D=E):LogTo v E:=by
 obtain ⟨a,b,A,B,ha,hb,e1,hu⟩:=h
 exact ⟨a,b,A,B,ha,hb,by rw [←hD];exact e1,fun N=>by rw [e,hu]⟩
theorem EE_arg {x y:Rat} (hx:0≤x) (h:x≤y) (T:Nat):EE x T≤EE y T:=sumQ_le T (fun i _=>ep_mono hx h i)
theorem EE_eps {y:Rat} (hy:0≤y) (h:2*y≤1) (T:Nat):EE y T≤1+2*y:=by
 have hi:=EE_rest y hy h 1 T
 have e1:ep y 1=y:=by
  have h:=ep_succ y 0
  have e1:((0+1:Nat):Rat)=1:=rfl
  have e0:ep y 0=1:=rfl
  rw [e1,e0] at h
  grind
 rw [show 1+1=2 from rfl,EE_two,e1] at hi
 grind
theorem mul_pos' {a b:Rat} (ha:0<a) (hb:0<b):0<a*b:=Rat.mul_pos ha hb
theorem log_near {u:Nat→Rat} {D:Rat} (h:LogTo u D) (hD:0<D) (r ε:Rat) (hr:0≤r) (hε0:0<ε) (hε:2*ε≤1) (N0:Nat) (hN: ∀N,N0≤N→ -ε≤u N-r∧u N-r≤ε):
 ∃S0,∀T,S0≤T→EE r T≤D*(1+4*ε)∧D≤EE r T*(1+4*ε):=by
 obtain ⟨a,b,A,B,ha,hb,eA,hu⟩:=h
 have A1:=ha.one_le
 have B1:=hb.one_le
 obtain ⟨a0,a1,a2⟩:=ha
 obtain ⟨b0,b1,b2⟩:=hb
 obtain ⟨δ,hδ⟩: ∃δ:Rat,δ=ε/2:=⟨_,rfl⟩
 have hδ2:2*δ=ε:=by rw [hδ];grind
 obtain ⟨Na,ha3⟩:=a2 δ (by grind)
 obtain ⟨Nb,hb3⟩:=b2 δ (by grind)
 obtain ⟨Ta,hTa⟩:=ha3 (N0+Na+Nb) (by omega)
 obtain ⟨Tb,hTb⟩:=hb3 (N0+Na+Nb) (by omega)
 have hn:=hN (N0+Na+Nb) (by omega)
 rw [hu] at hn
 have p0:=a0 (N0+Na+Nb)
 have q0:=b0 (N0+Na+Nb)
 have p1:=a1 (N0+Na+Nb)
 have q1:=b1 (N0+Na+Nb)
 generalize a (N0+Na+Nb)=x at *
 generalize b (N0+Na+Nb)=y at *
 refine ⟨Ta+Tb+1,fun T hT=>?_⟩
 have E1:=EE_ge_one hr (show 1≤T by omega)
 have ta:=hTa T (by omega)
 have tb:=hTb T (by omega)
 constructor
 ·have s1:=EE_add_ge r y hr q0 T
  have s2:=EE_arg (show 0≤r+y by grind) (show r+y≤x+ε by grind) (T+T)
  have s3:=EE_add_le x ε p0 (by grind) (T+T)
  have s4:=mul_le_mul2 (EE_nonneg x p0 (T+T)) (p1 (T+T)) (EE_nonneg ε (by grind) (T+T)) (EE_eps (by grind) hε (T+T))
  have s5:=Rat.mul_le_mul_of_nonneg_left tb (show 0≤EE r T by grind)
  generalize EE r T=E at *
  have s6:E*(B-δ)≤D*B*(1+2*ε):=by rw [←eA];grind
  have s7:B*(1+2*ε)≤(B-δ)*(1+4*ε):=by
   have k1:=Rat.mul_le_mul_of_nonneg_left B1 (show (0:Rat)≤ε by grind)
   have k2:=Rat.mul_le_mul_of_nonneg_left hε (show (0:Rat)≤δ by grind)
   grind
  have s8:=Rat.mul_le_mul_of_nonneg_left s7 (show (0:Rat)≤D by grind)
  apply Rat.le_of_mul_le_mul_left _ (show 0<B-δ by grind)
  grind
 ·have s2:=EE_arg p0 (show x≤(y+r)+ε by grind) T
  have s3:=EE_add_le (y+r) ε (by grind) (by grind) T
  have s4:=EE_add_le y r q0 hr T
  have s5:=mul_le_mul2 (EE_nonneg (y+r) (by grind) T) s4 (EE_nonneg ε (by grind) T) (EE_eps (by grind) hε T)
  have s6:=Rat.mul_le_mul_of_nonneg_right (q1 T) (show 0≤EE r T by grind)
  have s7:=Rat.mul_le_mul_of_nonneg_right s6 (show 0≤1+2*ε by grind)
  generalize EE r T=E at *
  have s8:A-δ≤B*E*(1+2*ε):=by grind
  have BE:1≤B*E:=by
   have:=mul_le_mul2 (show (0:Rat)≤1 by grind) B1 (show (0:Rat)≤1 by grind) E1
   grind
  have k:=Rat.mul_le_mul_of_nonneg_left BE (show (0:Rat)≤ε by grind)
  apply Rat.le_of_mul_le_mul_left _ (show 0<B by grind)
  grind
theorem EE_zero (T:Nat):EE 0 (T+1)=1:=by
 induction T with
 |zero=>unfold EE;simp only [sumQ,ep];grind
 |succ T ih=>
  unfold EE at ih ⊢
  rw [sumQ_succ,ih,ep];grind
theorem EE_three:EE 1 3=5/2:=by
 have h:=ep_succ 1 1
 have e2:EE 1 3=EE 1 2+ep 1 2:=rfl
 have e1:ep 1 1=1:=by
  have h:=ep_succ 1 0
  have o:((0+1:Nat):Rat)=1:=rfl
  have e0:ep 1 0=1:=rfl
  rw [o,e0] at h
  grind
 have o:((1+1:Nat):Rat)=2:=rfl
 rw [o,e1] at h
 rw [e2,EE_two]
 grind
theorem pow_le_pow' {a b:Rat} (ha:0≤a) (h:a≤b): ∀n:Nat,a^n≤b^n
 |0=>by rw [Rat.pow_zero,Rat.pow_zero];grind
 |n+1=>by
  rw [Rat.pow_succ,Rat.pow_succ]
  exact mul_le_mul2 (Rat.pow_nonneg ha) (pow_le_pow' ha h n) ha h
theorem pow_add' (x:Rat) (a:Nat): ∀b:Nat,x^(a+b)=x^a*x^b
 |0=>by rw [Nat.add_zero,Rat.pow_zero,Rat.mul_one]
 |b+1=>by rw [←Nat.add_assoc,Rat.pow_succ,Rat.pow_succ,pow_add' x a b];grind
theorem pow_mul' (x:Rat) (a:Nat): ∀k:Nat,x^(a*k)=(x^a)^k
 |0=>by rw [Nat.mul_zero,Rat.pow_zero,Rat.pow_zero]
 |k+1=>by rw [Nat.mul_succ,pow_add',Rat.pow_succ,pow_mul' x a k]
theorem EE_big (k:Nat): ∃T',(2:Rat)^(5*k)≤EE (((4*k:Nat):Rat)*1) T':=by
 obtain ⟨T',hT⟩:=EE_pow_ge 1 (by grind) (4*k) 3
 refine ⟨T',Rat.le_trans ?_ hT⟩
 rw [EE_three,pow_mul',pow_mul']
 refine pow_le_pow' (Rat.pow_nonneg (by grind)) ?_ k
 grind
theorem xb_low (a pl κ H N:Nat) (hpl:pl≤1300) (hab:a≤2^κ*2^pl):a^H*(2^pl)^N≤2^(κ*H+1300*N)*(2^pl)^H:=by
 have h1:(2^pl)^N≤2^(1300*N):=by
  rw [←Nat.pow_mul];exact Nat.pow_le_pow_right (by omega) (Nat.mul_le_mul_right _ hpl)
 have h2:a^H≤2^(κ*H)*(2^pl)^H:=by
  rw [Nat.pow_mul,←Nat.mul_pow];exact Nat.pow_le_pow_left hab H
 rw [Nat.pow_add,Nat.mul_assoc,Nat.mul_comm (2^(1300*N)),←Nat.mul_assoc]
 exact Nat.mul_le_mul h2 h1
theorem log_gap0 {u:Nat→Rat} {D:Rat} (h:LogTo u D) (hD:0<D) (cc dd c pl q g:Nat) (hdd:(dd:Rat)*D=(cc:Rat)) (hd0:0<dd) (hd:dd≤2^6000) (hD1:D≠1) (hq:q=4290) (hDq:D≤(2:Rat)^q) (hpl:pl≤1300) (r ε:Rat) (hr:(2:Rat)^pl*r=(c:Rat)) (hε0:0<ε) (hg:g=GG+4300) (hεg:(2:Rat)^g*ε≤1) (N0:Nat) (hN: ∀N,N0≤N→ -ε≤u N-r∧u N-r≤ε):False:=by
 have Pp:=pow2_pos pl
 have hr0:0≤r:=Rat.not_lt.1 (fun h=>by
  have:=Rat.mul_lt_mul_of_pos_left h Pp
  have:=Rat.natCast_nonneg (a:=c)
  grind)
 have GGge:6000<GG:=by decide
 obtain ⟨G,hG⟩: ∃G,G=GG:=⟨_,rfl⟩
 rw [←hG] at hg GGge
 have PG:=pow2_pos G
 have Pq:=pow2_pos q
 have e10:(2:Rat)^g=2^G*2^q*1024:=by
  rw [show g=G+q+10 by omega,pow2_add,pow2_add,show (2:Rat)^10=1024 by rw [←two_cast];rfl]
 have one_q:(1:Rat)≤2^q:=by have:=pow2_mono (show 0≤q by omega);rwa [Rat.pow_zero] at this
 have one_G:(1:Rat)≤2^G:=by have:=pow2_mono (show 0≤G by omega);rwa [Rat.pow_zero] at this
 rw [e10] at hεg
 clear hg e10
 have qe:1024*(2^q*ε)≤1:=by
  have a:=Rat.mul_le_mul_of_nonneg_right one_G (show 0≤2^q*ε*1024 from by
   have:=mul_pos' Pq hε0
   grind)
  grind
 have he:1024*ε≤1:=by
  have a:=Rat.mul_le_mul_of_nonneg_right one_q (show 0≤ε by grind)
  grind
 obtain ⟨S0,hS⟩:=log_near h hD r ε hr0 hε0 (by grind) N0 hN
 have hS2: ∀T,S0≤T→ -1≤(2:Rat)^G*(EE r T-D)∧(2:Rat)^G*(EE r T-D)≤1:=by
  intro T hT
  obtain ⟨a,b⟩:=hS T hT
  generalize EE r T=E at *
  have k1:=Rat.mul_le_mul_of_nonneg_right hDq (show 0≤ε by grind)
  have k0:E≤2*D:=by
   have:=Rat.mul_le_mul_of_nonneg_left (show 4*ε≤1 by grind) (show 0≤D by grind)
   grind
  have k2:=Rat.mul_le_mul_of_nonneg_right k0 (show 0≤ε by grind)
  have up:E-D≤8*(2^q*ε):=by grind
  have lo:D-E≤8*(2^q*ε):=by grind
  have m1:=Rat.mul_le_mul_of_nonneg_left up (show (0:Rat)≤2^G by grind)
  have m2:=Rat.mul_le_mul_of_nonneg_left lo (show (0:Rat)≤2^G by grind)
  constructor<;>grind
 have ddp:(0:Rat)<(dd:Rat):=Rat.natCast_pos.2 hd0
 by_cases hc:c=0
 ·have r0:r=0:=by
   have z:((0:Nat):Rat)=0:=rfl
   rw [hc,z] at hr
   have:=Rat.mul_eq_zero.1 hr
   grind
  obtain ⟨a,b⟩:=hS2 (S0+1) (by omega)
  rw [r0,EE_zero] at a b
  have hne:dd≠cc:=fun e=>hD1 (by
   rw [←e] at hdd
   have:(dd:Rat)*(D-1)=0:=by grind
   have:=Rat.mul_eq_zero.1 this
   grind)
  have dG:(dd:Rat)<2^G:=by
   obtain ⟨z,hz⟩: ∃z,z=6000:=⟨_,rfl⟩
   rw [←hz] at hd
   have k1:=natle hd
   rw [two_cast] at k1
   have k3:=pow2_mono (show z+1≤G by omega)
   rw [pow2_succ] at k3
   have:=pow2_pos z
   generalize (2:Rat)^z=X at *
   grind
  rcases Nat.lt_or_gt_of_ne hne with k|k
  ·have k1:=natle (show dd+1≤cc from k)
   rw [cast_succ] at k1
   have m:=Rat.mul_le_mul_of_nonneg_left (show (1:Rat)≤dd*(D-1) by grind) (show (0:Rat)≤2^G by grind)
   have n:=Rat.mul_le_mul_of_nonneg_left a (show (0:Rat)≤dd by grind)
   grind
  ·have k1:=natle (show cc+1≤dd from k)
   rw [cast_succ] at k1
   have m:=Rat.mul_le_mul_of_nonneg_left (show (1:Rat)≤dd*(1-D) by grind) (show (0:Rat)≤2^G by grind)
   have n:=Rat.mul_le_mul_of_nonneg_left b (show (0:Rat)≤dd by grind)
   grind
 ·obtain ⟨uu,hu⟩: ∃uu,uu=1303:=⟨_,rfl⟩
  obtain ⟨k,hk⟩: ∃k,k=1024:=⟨_,rfl⟩
  have x1:2^pl≤c*2^uu:=by
   have a:2^pl≤2^uu:=Nat.pow_le_pow_right (by omega) (by omega)
   exact Nat.le_trans a (Nat.le_mul_of_pos_left _ (by omega))
  have x2:c≤2^12*2^pl:=by
   apply Nat.le_of_not_lt
   intro hlt
   have h1:=Rat.natCast_lt_natCast.2 hlt
   rw [cast_mul,two_cast,two_cast,←hr] at h1
   have h2:((4*k:Nat):Rat)*1≤r:=by
    apply Rat.le_of_mul_le_mul_left _ Pp
    have e:((4*k:Nat):Rat)=2^12:=by rw [hk,←two_cast]
    rw [e];grind
   obtain ⟨T',hT⟩:=EE_big k
   have h3:=EE_arg (by have:=Rat.natCast_nonneg (a:=4*k);grind) h2 (S0+T')
   have h4:=EE_le (((4*k:Nat):Rat)*1) (by have:=Rat.natCast_nonneg (a:=4*k);grind) (show T'≤S0+T' by omega)
   obtain ⟨a,-⟩:=hS (S0+T') (by omega)
   generalize EE r (S0+T')=E at *
   have k0:E≤2*2^q:=by
    have:=Rat.mul_le_mul_of_nonneg_left (show 4*ε≤1 by grind) (show 0≤D by grind)
    grind
   have k1:=pow2_mono (show q+2≤5*k by omega)
   rw [pow2_add,show (2:Rat)^2=4 by rw [←two_cast];rfl] at k1
   grind
  rw [hG] at hS2
  exact gap c (2^pl) cc dd (Nat.two_pow_pos pl) r D (by rw [two_cast];exact hr) hdd uu hu x1 x2 (fun κ H N hH hab=>xb_low c pl κ H N hpl hab) hd0 hd S0 hS2
def LnFar (u:Nat→Rat) (pl g:Nat):Prop:= ∀(c:Int) (r ε:Rat),(2:Rat)^pl*r=(c:Rat)→0<ε→(2:Rat)^g*ε≤1→ ∀N0,(∀N,N0≤N→ -ε≤u N-r∧u N-r≤ε)→False
theorem dyQ_pos' {m:Nat} (h:0<m) (x0:Int):0<dyQ m x0:=by
 have P:=pow2_pos (-x0).toNat
 have Q:=pow2_pos x0.toNat
 have e:=dyQ_eq m x0
 have hm:(0:Rat)<(m:Rat):=Rat.natCast_pos.2 h
 have f:=Rat.mul_pos hm Q
 rw [←e] at f
 have a:=dyQ_nonneg m x0
 generalize dyQ m x0=y at *
 have hne:y≠0:=by
  intro hz
  rw [hz,Rat.mul_zero] at f
  exact absurd f (by grind)
 grind
theorem log_far {u:Nat→Rat} (m:Nat) (e:Int) (h:LogTo u (dyQ m e)) (h0:0<m) (hm:m<2^1280) (he: -3000≤e∧e≤3000) (h1:dyQ m e≠1) (pl g:Nat) (hpl:pl≤1300) (hg:g=GG+4300):LnFar u pl g:=by
 intro c r ε hr hε0 hεg N0 hN
 have hD:=dyQ_pos' h0 e
 have eq:=dyQ_eq m e
 obtain ⟨s,hs⟩: ∃s,s=(-e).toNat:=⟨_,rfl⟩
 obtain ⟨k,hk⟩: ∃k,k=e.toNat:=⟨_,rfl⟩
 rw [←hs,←hk] at eq
 have hs3:s≤3000:=by omega
 have hk3:k≤3000:=by omega
 obtain ⟨q,hq⟩: ∃q,q=4290:=⟨_,rfl⟩
 obtain ⟨z,hz⟩: ∃z,z=6000:=⟨_,rfl⟩
 have Ps:=pow2_pos s
 have Pk:=pow2_pos k
 have mk:m*2^k≤2^q:=by
  obtain ⟨y,hy⟩: ∃y,y=1280:=⟨_,rfl⟩
  rw [←hy] at hm
  refine Nat.le_trans (Nat.mul_le_mul (Nat.le_of_lt hm) (Nat.le_refl _)) ?_
  rw [←Nat.pow_add];exact Nat.pow_le_pow_right (by omega) (by omega)
 clear hm
 have zq:2^q≤2^z:=Nat.pow_le_pow_right (by omega) (by omega)
 have one_s:(1:Rat)≤2^s:=by have:=pow2_mono (show 0≤s by omega);rwa [Rat.pow_zero] at this
 have mq:=natle mk
 rw [cast_mul,two_cast,two_cast] at mq
 rcases Int.lt_or_le c 0 with hc|hc
 ·-- below: the reciprocal
  obtain ⟨E,hE⟩: ∃E:Rat,E=1/dyQ m e:=⟨_,rfl⟩
  have hDE:dyQ m e*E=1:=by rw [hE];grind
  have hE0:0<E:=Rat.not_le.1 (fun h=>by
   have:=Rat.mul_le_mul_of_nonneg_left h (show 0≤dyQ m e by grind)
   grind)
  have hfr:((m*2^k:Nat):Rat)*E=((2^s:Nat):Rat):=by
   rw [cast_mul,two_cast,two_cast,←eq];grind
  have m1:(1:Rat)≤((m*2^k:Nat):Rat):=by
   have:0<m*2^k:=Nat.mul_pos h0 (Nat.two_pow_pos k)
   exact natle (show 1≤m*2^k from this)
  have hEq:E≤2^q:=by
   have a:=Rat.mul_le_mul_of_nonneg_right m1 (show 0≤E by grind)
   rw [hfr,two_cast] at a
   have b:=pow2_mono (show s≤q by omega)
   grind
  have hE1:E≠1:=fun e1=>h1 (by rw [e1] at hDE;grind)
  obtain ⟨c',hc'⟩: ∃c':Nat,c= -(c':Int):=⟨c.natAbs,by omega⟩
  refine log_gap0 (h.neg hDE) hE0 (2^s) (m*2^k) c' pl q g hfr (Nat.mul_pos h0 (Nat.two_pow_pos k)) ?_ hE1 hq hEq hpl (-r) ε ?_ hε0 hg hεg N0 (fun N h=>?_)
  ·rw [←hz];exact Nat.le_trans mk zq
  ·rw [hc'] at hr
   have:((-(c':Int):Int):Rat)= -(c':Rat):=by rw [Rat.intCast_neg];rfl
   rw [this] at hr
   grind
  ·have:=hN N h
   constructor<;>grind
 ·obtain ⟨c',rfl⟩:=Int.eq_ofNat_of_zero_le hc
  have hfr:((2^s:Nat):Rat)*dyQ m e=((m*2^k:Nat):Rat):=by
   rw [cast_mul,two_cast,two_cast];exact eq
  have hDq:dyQ m e≤2^q:=by
   have a:=Rat.mul_le_mul_of_nonneg_right one_s (show 0≤dyQ m e by grind)
   grind
  refine log_gap0 h hD (m*2^k) (2^s) c' pl q g hfr (Nat.two_pow_pos s) ?_ h1 hq hDq hpl r ε hr hε0 hg hεg N0 hN
  rw [←hz];exact Nat.pow_le_pow_right (by omega) (by omega)
def InS (D:Nat) (u:Nat→Rat) (x:Int×Int):Prop:= ∃N0,∀N,N0≤N→(x.1:Rat)≤(D:Rat)*u N∧(D:Rat)*u N≤(x.2:Rat)
def IsLf (u:Nat→Rat) (pl:Nat) (z:Int):Prop:= ∃(δ:Rat) (N0:Nat),0<δ∧ ∀N,N0≤N→(z:Rat)≤2^pl*u N∧2^pl*u N+δ≤((z+1:Int):Rat)
theorem lf_le {u v:Nat→Rat} (h:Near u v) {pl:Nat} {z w:Int} (a:IsLf u pl z) (b:IsLf v pl w):z≤w:=by
 obtain ⟨δ,N0,h0,h1⟩:=a
 obtain ⟨δ',M0,k0,k1⟩:=b
 have P:=pow2_pos pl
 obtain ⟨ε,hε⟩: ∃ε:Rat,ε=δ'/(2*2^pl):=⟨_,rfl⟩
 have e2:2*(2^pl*ε)=δ':=by rw [hε];grind
 have e0:0<ε:=Rat.not_le.1 (fun h=>by
  have:=Rat.mul_le_mul_of_nonneg_left h (show (0:Rat)≤2^pl by grind)
  grind)
 obtain ⟨L0,hL⟩:=h ε e0
 obtain ⟨-,l⟩:=hL (N0+M0+L0) (by omega)
 obtain ⟨x,-⟩:=h1 (N0+M0+L0) (by omega)
 obtain ⟨-,y⟩:=k1 (N0+M0+L0) (by omega)
 have m:=Rat.mul_le_mul_of_nonneg_left l (show (0:Rat)≤2^pl by grind)
 have:(z:Rat)<((w+1:Int):Rat):=by grind
 have:=Rat.intCast_lt_intCast.1 this
 omega
theorem lf_uniq {u v:Nat→Rat} (h:Near u v) {pl:Nat} {z w:Int} (a:IsLf u pl z) (b:IsLf v pl w):z=w:=Int.le_antisymm (lf_le h a b) (lf_le h.symm b a)
theorem int_two (x:Int) (n:Nat):((x*((2^n:Nat):Int):Int):Rat)=(x:Rat)*2^n:=by
 rw [Rat.intCast_mul,Rat.intCast_natCast,two_cast]
theorem lf_of {D:Nat} (hD:0<D) {u:Nat→Rat} {x:Int×Int} (h:InS D u x) (pl:Nat) (z:Int) (h1:x.1*((2^pl:Nat):Int)/(D:Int)=z) (h2:x.2*((2^pl:Nat):Int)/(D:Int)=z):IsLf u pl z:=by
 obtain ⟨N0,h⟩:=h
 have P:(0:Rat)<(D:Rat):=Rat.natCast_pos.2 hD
 have L:=pow2_pos pl
 have c1:z*(D:Int)≤x.1*((2^pl:Nat):Int):=by rw [←h1];exact Int.ediv_mul_le _ (by omega)
 have c2:x.2*((2^pl:Nat):Int)+1≤(z+1)*(D:Int):=by rw [←h2];exact Int.lt_ediv_add_one_mul_self _ (by omega)
 have d1:=Rat.intCast_le_intCast.2 c1
 have d2:=Rat.intCast_le_intCast.2 c2
 rw [int_two,Rat.intCast_mul,Rat.intCast_natCast] at d1
 rw [Rat.intCast_add,int_two,Rat.intCast_mul,Rat.intCast_natCast] at d2
 have o:((1:Int):Rat)=1:=rfl
 rw [o] at d2
 obtain ⟨δ,hδ⟩: ∃δ:Rat,δ=1/(D:Rat):=⟨_,rfl⟩
 have hδ2:(D:Rat)*δ=1:=by rw [hδ];grind
 refine ⟨δ,N0,?_,fun N hN=>?_⟩
 ·exact Rat.not_le.1 (fun h=>by
   have:=Rat.mul_le_mul_of_nonneg_left h (show (0:Rat)≤D by grind)
   grind)
 ·obtain ⟨a,b⟩:=h N hN
  have a2:=Rat.mul_le_mul_of_nonneg_left a (show (0:Rat)≤2^pl by grind)
  have b2:=Rat.mul_le_mul_of_nonneg_left b (show (0:Rat)≤2^pl by grind)
  constructor
  ·apply Rat.le_of_mul_le_mul_left _ P
   grind
  ·apply Rat.le_of_mul_le_mul_left _ P
   grind
theorem sep_lf {D g pl:Nat} (hD:0<D) {u:Nat→Rat} {x:Int×Int} (hF:LnFar u pl g) (h:InS D u x) (h01:x.1≤x.2) (W:Nat) (hW:x.2≤x.1+((2^W:Nat):Int)) (hp:2^(W+g)≤D):x.1*((2^pl:Nat):Int)/(D:Int)=x.2*((2^pl:Nat):Int)/(D:Int):=by
 apply Classical.byContradiction
 intro hne
 have hDi:(0:Int)<(D:Int):=by omega
 have two:(0:Int)≤((2^pl:Nat):Int):=Int.natCast_nonneg _
 have mono:x.1*((2^pl:Nat):Int)/(D:Int)≤x.2*((2^pl:Nat):Int)/(D:Int):=Int.ediv_le_ediv hDi (Int.mul_le_mul_of_nonneg_right h01 two)
 obtain ⟨c,hc⟩: ∃c,c=x.1*((2^pl:Nat):Int)/(D:Int)+1:=⟨_,rfl⟩
 have c1:x.1*((2^pl:Nat):Int)<c*(D:Int):=by rw [hc];exact Int.lt_ediv_add_one_mul_self _ hDi
 have c2:c*(D:Int)≤x.2*((2^pl:Nat):Int):=Int.le_trans (Int.mul_le_mul_of_nonneg_right (show c≤x.2*((2^pl:Nat):Int)/(D:Int) by omega) (by omega)) (Int.ediv_mul_le _ (by omega))
 have P:(0:Rat)<(D:Rat):=Rat.natCast_pos.2 hD
 have L:=pow2_pos pl
 obtain ⟨r,hr⟩: ∃r:Rat,r=(c:Rat)/2^pl:=⟨_,rfl⟩
 have hr2:(2:Rat)^pl*r=(c:Rat):=by rw [hr];grind
 obtain ⟨N0,hN0⟩:=h
 have d1:=Rat.intCast_lt_intCast.2 c1
 have d2:=Rat.intCast_le_intCast.2 c2
 have w:=Rat.intCast_le_intCast.2 hW
 rw [int_two,Rat.intCast_mul,Rat.intCast_natCast] at d1
 rw [int_two,Rat.intCast_mul,Rat.intCast_natCast] at d2
 rw [Rat.intCast_add,Rat.intCast_natCast,two_cast] at w
 rw [←hr2] at d1 d2
 have f1:(x.1:Rat)<D*r:=Rat.lt_of_mul_lt_mul_left (show (2:Rat)^pl*(x.1:Rat)<2^pl*(D*r) by grind) (by grind)
 have f2:D*r≤(x.2:Rat):=Rat.le_of_mul_le_mul_left (show (2:Rat)^pl*(D*r)≤2^pl*(x.2:Rat) by grind) L
 have q:(2:Rat)^g*2^W≤(D:Rat):=by
  have:=natle hp
  rw [Nat.add_comm,Nat.pow_add,cast_mul,two_cast,two_cast] at this
  exact this
 have Gp:=pow2_pos g
 have Wp:=pow2_pos W
 obtain ⟨ε,hε⟩: ∃ε:Rat,ε=2^W/(D:Rat):=⟨_,rfl⟩
 have e2:(D:Rat)*ε=2^W:=by rw [hε];grind
 have e0:0<ε:=Rat.not_le.1 (fun h=>by
  have:=Rat.mul_le_mul_of_nonneg_left h (show (0:Rat)≤D by grind)
  grind)
 refine hF c r ε hr2 e0 ?_ N0 (fun N hN=>?_)
 ·apply Rat.le_of_mul_le_mul_left _ P
  have e3:(D:Rat)*(2^g*ε)=2^g*(D*ε):=by grind
  rw [e3,e2,Rat.mul_one]
  exact q
 ·obtain ⟨a,b⟩:=hN0 N hN
  constructor
  ·apply Rat.le_of_mul_le_mul_left _ P
   grind
  ·apply Rat.le_of_mul_le_mul_left _ P
   grind
end Go.Ulp
