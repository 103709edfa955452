/- ExpoExps: what the proof leans on, part 29 (Eg8 Eg9 Eh5 Li4 Li5 Lj0). -/
import Derived.Test.YtehhegbkahnhgaaGreatDoorKExpoExps28
set_option linter.unusedVariables false
set_option linter.unusedSimpArgs false
namespace Go.Ulp
open Go.RowKit
theorem st_gt {x c:Int} {D:Nat} (hD:0<D) (h:c*(D:Int)<x*pw 1075):2*c+1≤st x D:=by
 have e:=Int.emod_add_mul_ediv (x*pw 1075) (D:Int)
 have l0:=Int.emod_nonneg (x*pw 1075) (show (D:Int)≠0 by omega)
 have hq:c≤x*pw 1075/(D:Int):=Int.le_ediv_of_mul_le (by omega) (Int.le_of_lt h)
 unfold st
 generalize x*pw 1075=X at *
 generalize hQ:X/(D:Int)=q at *
 by_cases hz:X%(D:Int)=0
 ·rw [if_pos hz]
  rw [hz,Int.mul_comm] at e
  have:c≠q:=fun h9=>by rw [h9] at h;omega
  omega
 ·rw [if_neg hz];omega
theorem st_lt {x c:Int} {D:Nat} (hD:0<D) (h:x*pw 1075<c*(D:Int)):st x D≤2*c-1:=by
 have hq:x*pw 1075/(D:Int)<c:=Int.ediv_lt_of_lt_mul (by omega) h
 unfold st
 split<;>omega
theorem exr_tiny {y:Rat} {mode X:Int} (m0:0≤mode) (m1:mode≤4) (hy:(760:Rat)≤y) (h:ExR true y false mode X):X=vX 1 mode:=by
 obtain ⟨D,x,c1,c2,hD,hb,h1,h2,h3,h4⟩:=h
 unfold ExB at hb
 rw [if_pos rfl] at hb
 obtain ⟨T,hT⟩:=EE_7k 108 4
 have e7:((7*108+4:Nat):Rat)=760:=rfl
 rw [e7,show 10*108+4=1075+9 from rfl] at hT
 obtain ⟨z,hz⟩: ∃z,z=1075:=⟨_,rfl⟩
 rw [←hz] at hT
 have a:=EE_arg (by grind) hy T
 have b:=hb.1 T
 have P:=pow2_pos z
 have m1':=pow2_add z 9
 have hE:(2:Rat)^z*512≤EE y T:=by
  have:(2:Rat)^9=512:=by grind
  rw [m1',this] at hT
  grind
 have c:=Rat.mul_le_mul_of_nonneg_left hE (Rat.natCast_nonneg (a:=x.1))
 have d:((x.1*(2^z*512):Nat):Rat)≤(D:Rat):=by
  rw [cast_mul,cast_mul,two_cast]
  have:((512:Nat):Rat)=512:=rfl
  rw [this]
  grind
 have d2:=Rat.natCast_le_natCast.1 d
 have e1:((x.1:Int)-oD false D)=((x.1:Nat):Int):=by show (x.1:Int)-0=_;omega
 rw [e1] at h1 h3
 have hx0:0<x.1:=by
  rcases Nat.eq_zero_or_pos x.1 with h0|h0
  ·exfalso
   apply h3
   rw [h0]
   unfold st
   show 2*((0:Int)*pw 1075/(D:Int))+(if (0:Int)*pw 1075%(D:Int)=0 then 0 else 1)=0
   rw [Int.zero_mul,Int.zero_ediv,Int.zero_emod,if_pos rfl]
   rfl
  ·exact h0
 have hs:st ((x.1:Nat):Int) D=1:=st_tiny hz hx0 (by
  have e2:x.1*(2^z*512)=x.1*2^z*512:=(Nat.mul_assoc _ _ _).symm
  have e3:0<x.1*2^z:=Nat.mul_pos hx0 (Nat.two_pow_pos z)
  omega)
 rw [hs] at h1
 exact vX_of m0 m1 h1
theorem exr_one {y:Rat} {neg:Bool} {mode X Y:Int} {ch:Bool} (hy:0<y) (hs:y*1152921504606846976≤1) (pl:Nat) (hpl:pl=1075) (c:Int) (hc:c=((2^pl:Nat):Int)) (h:ExR neg y false mode X) (r:Rnd 2 (if neg=true then 2*c-1 else 2*c+1) mode Y ch):X=Y:=by
 obtain ⟨D,x,c1,c2,hD,hb,h1,h2,h3,h4⟩:=h
 have e1: ∀n:Nat,((n:Int)-oD false D)=((n:Nat):Int):=fun n=>by show (n:Int)-0=_;omega
 rw [e1] at h1 h2 h3 h4
 have hP:(0:Rat)<(D:Rat):=Rat.natCast_pos.2 hD
 have pp:=Nat.two_pow_pos pl
 have hcp:c≠0:=by omega
 have hcs:c=sg false ((1*2^pl:Nat):Int):=by rw [Nat.one_mul];exact hc
 have hca:(c.natAbs:Int)=c:=by omega
 obtain ⟨d,hd⟩: ∃d,d=pl+58:=⟨_,rfl⟩
 have ed:((2^d:Nat):Int)=c*288230376151711744:=by
  rw [hd,Nat.pow_add,Int.natCast_mul,←hc];rfl
 have hcP:(0:Int)<c:=by omega
 have k58:((288230376151711744:Nat):Rat)=288230376151711744:=rfl
 have k58':((288230376151711745:Nat):Rat)=288230376151711745:=rfl
 have k58'':((288230376151711743:Nat):Rat)=288230376151711743:=rfl
 unfold ExB at hb
 cases neg
 ·rw [if_neg (by decide)] at hb
  rw [if_neg (by decide)] at r
  obtain ⟨⟨T,a⟩,b⟩:=hb
  have A:=abv_far false 1 pl d (by decide) (by decide) (by omega) c hcs
  have r2:=(abv_two c).rnd A r
  rw [hca] at r2 A
  have hA0:st (c*288230376151711744+c) (2^d)≠0:=fun h=>by
   have:=A.2.2
   rw [h,show cmpI 0 0=0 by decide,if_pos (by omega)] at this
   omega
  refine rnd_two h1 h2 r r2 ?_ ?_ h3 h4 (by omega) hA0
  ·apply st_mono hD (Nat.two_pow_pos d)
   have t1:=EE_eps (by grind) (show 2*y≤1 by grind) T
   have t2:=Rat.mul_le_mul_of_nonneg_left t1 (show (0:Rat)≤(D:Rat) by grind)
   have t3:((x.1*288230376151711744:Nat):Rat)≤((D*288230376151711745:Nat):Rat):=by
    rw [cast_mul,cast_mul,k58,k58']
    have:=Rat.mul_le_mul_of_nonneg_left hs (show (0:Rat)≤(D:Rat) by grind)
    grind
   have t4:(x.1:Int)*288230376151711744≤(D:Int)*288230376151711745:=by
    have q:=Int.ofNat_le.2 (Rat.natCast_le_natCast.1 t3)
    rw [Int.natCast_mul,Int.natCast_mul] at q
    exact q
   rw [ed]
   have t5:=Int.mul_le_mul_of_nonneg_left t4 (Int.le_of_lt hcP)
   have e5:(x.1:Int)*(c*288230376151711744)=c*((x.1:Int)*288230376151711744):=by rw [Int.mul_left_comm]
   have e6:(c*288230376151711744+c)*(D:Int)=c*((D:Int)*288230376151711745):=by
    rw [show c*288230376151711744+c=c*288230376151711745 by omega,Int.mul_assoc,Int.mul_comm 288230376151711745]
   omega
  ·apply st_gt hD
   have t1:=b 2
   rw [EE_two] at t1
   have t2:(D:Rat)<(x.2:Rat):=by
    have:=Rat.mul_pos hP hy
    grind
   have t3:=Rat.natCast_lt_natCast.1 t2
   rw [←hpl,pw_nat,←hc,Int.mul_comm (x.2:Int)]
   exact Int.mul_lt_mul_of_pos_left (by omega) hcP
 ·rw [if_pos rfl] at hb
  rw [if_pos rfl] at r
  obtain ⟨a,T,b⟩:=hb
  have B:=blw_far false 1 pl d (by decide) (by decide) (by omega) c hcs
  have r2:=(blw_two c hcp).rnd B r
  rw [hca] at r2 B
  have hA0:st (c*288230376151711744-c) (2^d)≠0:=fun h=>by
   have:=B.2.2
   rw [h,show cmpI 0 0=0 by decide,if_pos hcP] at this
   omega
  refine rnd_two h1 h2 r2 r ?_ ?_ h3 h4 hA0 (by omega)
  ·apply st_lt hD
   have t1:=a 2
   rw [EE_two] at t1
   have t2:(x.1:Rat)<(D:Rat):=by
    rcases Nat.eq_zero_or_pos x.1 with h0|h0
    ·rw [h0]
     have:((0:Nat):Rat)=0:=rfl
     grind
    ·have hx:=Rat.natCast_pos.2 h0
     have:=Rat.mul_pos hx hy
     grind
   have t3:=Rat.natCast_lt_natCast.1 t2
   rw [←hpl,pw_nat,←hc,Int.mul_comm]
   exact Int.mul_lt_mul_of_pos_left (by omega) hcP
  ·apply st_mono (Nat.two_pow_pos d) hD
   have t1:=EE_eps (by grind) (show 2*y≤1 by grind) T
   have t2:=Rat.mul_le_mul_of_nonneg_left t1 (Rat.natCast_nonneg (a:=x.2))
   have t3:((D*288230376151711743:Nat):Rat)≤((x.2*288230376151711744:Nat):Rat):=by
    rw [cast_mul,cast_mul,k58,k58'']
    have u1:=Rat.mul_le_mul_of_nonneg_left hs (Rat.natCast_nonneg (a:=x.2))
    rcases Nat.lt_or_ge x.2 D with h9|h9
    ·have u2:=natle (Nat.le_of_lt h9)
     have u3:=Rat.natCast_nonneg (a:=x.2)
     grind
    ·have u2:=natle h9
     have u3:=Rat.natCast_nonneg (a:=D)
     grind
   have t4:(D:Int)*288230376151711743≤(x.2:Int)*288230376151711744:=by
    have q:=Int.ofNat_le.2 (Rat.natCast_le_natCast.1 t3)
    rw [Int.natCast_mul,Int.natCast_mul] at q
    exact q
   rw [ed]
   have t5:=Int.mul_le_mul_of_nonneg_left t4 (Int.le_of_lt hcP)
   have e5:(x.2:Int)*(c*288230376151711744)=c*((x.2:Int)*288230376151711744):=by rw [Int.mul_left_comm]
   have e6:(c*288230376151711744-c)*(D:Int)=c*((D:Int)*288230376151711743):=by
    rw [show c*288230376151711744-c=c*288230376151711743 by omega,Int.mul_assoc,Int.mul_comm 288230376151711743]
   omega
theorem exr_m1 {y:Rat} {mode X Y:Int} {ch:Bool} (hy:(64:Rat)≤y) (pl:Nat) (hpl:pl=1075) (c:Int) (hc:c= -((2^pl:Nat):Int)) (h:ExR true y true mode X) (r:Rnd 2 (2*c+1) mode Y ch):X=Y:=by
 obtain ⟨D,x,c1,c2,hD,hb,h1,h2,h3,h4⟩:=h
 have hP:(0:Rat)<(D:Rat):=Rat.natCast_pos.2 hD
 have pp:=Nat.two_pow_pos pl
 have hcs:c=sg true ((1*2^pl:Nat):Int):=by rw [Nat.one_mul];exact hc
 have hca:(c.natAbs:Int)= -c:=by omega
 have hcP:(0:Int)< -c:=by omega
 obtain ⟨d,hd⟩: ∃d,d=pl+58:=⟨_,rfl⟩
 have ed:((2^d:Nat):Int)= -c*288230376151711744:=by
  rw [hd,Nat.pow_add,Int.natCast_mul,hc,Int.neg_neg];rfl
 unfold ExB at hb
 rw [if_pos rfl] at hb
 obtain ⟨a,T,b⟩:=hb
 have A:=abv_far true 1 pl d (by decide) (by decide) (by omega) c hcs
 have r2:=(abv_two c).rnd A r
 have hA0:st (c*288230376151711744+(c.natAbs:Int)) (2^d)≠0:=fun h=>by
  have:=A.2.2
  rw [h,show cmpI 0 0=0 by decide,if_neg (by omega)] at this
  omega
 rw [hca] at r2 hA0
 have e1: ∀n:Nat,((n:Int)-oD true D)=(n:Int)-(D:Int):=fun n=>rfl
 rw [e1] at h1 h2 h3 h4
 refine rnd_two h1 h2 r r2 ?_ ?_ h3 h4 (by omega) hA0
 ·apply st_mono hD (Nat.two_pow_pos d)
  obtain ⟨S,hS⟩:=EE_7k 9 1
  have e7:((7*9+1:Nat):Rat)=64:=rfl
  rw [e7] at hS
  have t1:=EE_arg (by grind) hy S
  have t2:=a S
  have k:(288230376151711744:Rat)≤2^(10*9+1):=by grind
  have t3:=Rat.mul_le_mul_of_nonneg_left (show (288230376151711744:Rat)≤EE y S by grind) (Rat.natCast_nonneg (a:=x.1))
  have t4:((x.1*288230376151711744:Nat):Rat)≤(D:Rat):=by
   rw [cast_mul]
   have:((288230376151711744:Nat):Rat)=288230376151711744:=rfl
   rw [this]
   grind
  have q:=Int.ofNat_le.2 (Rat.natCast_le_natCast.1 t4)
  rw [Int.natCast_mul] at q
  have q2:(x.1:Int)*288230376151711744≤(D:Int):=q
  rw [ed]
  have t5:=Int.mul_le_mul_of_nonneg_left q2 (Int.le_of_lt hcP)
  have e5:((x.1:Int)-(D:Int))*(-c*288230376151711744)= -c*((x.1:Int)*288230376151711744)- -c*((D:Int)*288230376151711744):=by
   rw [Int.sub_mul,Int.mul_left_comm,Int.mul_left_comm (D:Int)]
  have e6:(c*288230376151711744+ -c)*(D:Int)= -c*(D:Int)- -c*((D:Int)*288230376151711744):=by
   rw [Int.add_mul,Int.mul_comm (D:Int) 288230376151711744,←Int.mul_assoc,Int.neg_mul,Int.neg_mul,Int.neg_mul]
   omega
  omega
 ·apply st_gt hD
  have hx0:0<x.2:=by
   rcases Nat.eq_zero_or_pos x.2 with h0|h0
   ·exfalso
    rw [h0] at b
    have:((0:Nat):Rat)=0:=rfl
    grind
   ·exact h0
  rw [←hpl,pw_nat,show ((2^pl:Nat):Int)= -c by omega,Int.sub_mul,Int.mul_comm (D:Int),Int.neg_mul]
  have:=Int.mul_pos (show (0:Int)<(x.2:Int) by omega) hcP
  omega
theorem exr_x {y:Rat} {neg:Bool} {mode X Y:Int} {ch:Bool} (hs:y*1152921504606846976≤1) (M E pl:Nat) (hM:M<9007199254740992) (hM0:0<M) (hpl:pl=1075) (hy:(2:Rat)^pl*y=((M*2^E:Nat):Rat)) (c:Int) (hc:c=sg neg ((M*2^E:Nat):Int)) (h:ExR neg y true mode X) (r:Rnd 2 (2*c+1) mode Y ch):X=Y:=by
 obtain ⟨D,x,c1,c2,hD,hb,h1,h2,h3,h4⟩:=h
 have hP:(0:Rat)<(D:Rat):=Rat.natCast_pos.2 hD
 have pp:=pow2_pos pl
 have hp:0<M*2^E:=Nat.mul_pos hM0 (Nat.two_pow_pos E)
 obtain ⟨Z,hZ⟩: ∃Z,Z=M*2^E:=⟨_,rfl⟩
 have hca:(c.natAbs:Int)=(Z:Int):=by rw [hc,hZ];unfold sg;split<;>omega
 obtain ⟨d,hd⟩: ∃d,d=pl+58:=⟨_,rfl⟩
 have A:=abv_far neg M E d hM hM0 (by omega) c hc
 have r2:=(abv_two c).rnd A r
 have hA0:st (c*288230376151711744+(c.natAbs:Int)) (2^d)≠0:=fun h=>by
  have:=A.2.2
  rw [h,show cmpI 0 0=0 by decide] at this
  split at this<;>omega
 rw [hca] at r2 hA0
 rw [←hZ] at hy hc hp
 have hZ0:(0:Rat)<(Z:Rat):=Rat.natCast_pos.2 hp
 have hy0:0<y:=by
  apply Rat.not_le.1
  intro h9
  have:=Rat.mul_le_mul_of_nonneg_left h9 (show (0:Rat)≤2^pl by grind)
  grind
 have e1: ∀n:Nat,((n:Int)-oD true D)=(n:Int)-(D:Int):=fun n=>rfl
 rw [e1] at h1 h2 h3 h4
 have c2P:(((2^pl:Nat):Int):Rat)=2^pl:=by rw [←two_cast];rfl
 have c2D:(((2^d:Nat):Int):Rat)=2^pl*288230376151711744:=by
  have:(((2^d:Nat):Int):Rat)=2^d:=by rw [←two_cast];rfl
  rw [this,hd,pow2_add]
  congr 1
 have k58:((288230376151711744:Int):Rat)=288230376151711744:=rfl
 have cD:((D:Int):Rat)=(D:Rat):=rfl
 have cZ:((Z:Int):Rat)=(Z:Rat):=rfl
 have cx1:((x.1:Int):Rat)=(x.1:Rat):=rfl
 have cx2:((x.2:Int):Rat)=(x.2:Rat):=rfl
 have cc:(c:Rat)=if neg=true then -(Z:Rat) else (Z:Rat):=by
  rw [hc];unfold sg
  split
  ·rw [Rat.intCast_neg];rfl
  ·rfl
 unfold ExB at hb
 refine rnd_two h1 h2 r r2 ?_ ?_ h3 h4 (by omega) hA0
 ·apply st_mono hD (Nat.two_pow_pos d)
  apply Rat.intCast_le_intCast.1
  rw [Rat.intCast_mul,Rat.intCast_mul,Rat.intCast_sub,Rat.intCast_add,Rat.intCast_mul,c2D,k58,cD,cZ,cx1,cc]
  rw [←hy]
  cases neg
  ·rw [if_neg (by decide)] at hb
   rw [if_neg (by decide)]
   obtain ⟨⟨T,a⟩,-⟩:=hb
   have t1:=EE_sq y (by grind) (by grind) T
   have t2:=Rat.mul_le_mul_of_nonneg_left t1 (show (0:Rat)≤(D:Rat) by grind)
   have t3:(x.1:Rat)-D≤D*(y+y*y):=by grind
   have t4:(y+y*y)*288230376151711744≤y*288230376151711744+y:=by
    have:=Rat.mul_le_mul_of_nonneg_left hs (show (0:Rat)≤y by grind)
    grind
   have t5:=Rat.mul_le_mul_of_nonneg_left t4 (show (0:Rat)≤(D:Rat) by grind)
   have t6:((x.1:Rat)-D)*288230376151711744≤D*(y*288230376151711744+y):=by grind
   have t7:=Rat.mul_le_mul_of_nonneg_left t6 (show (0:Rat)≤2^pl by grind)
   grind
  ·rw [if_pos rfl] at hb
   rw [if_pos rfl]
   obtain ⟨a,-⟩:=hb
   have t1:=a 2
   rw [EE_two] at t1
   have x0:=Rat.natCast_nonneg (a:=x.1)
   generalize (x.1:Rat)=X1 at *
   have t2:X1≤D*(1-y+y*y):=by
    have k:X1*(1+y)≤D*(1-y+y*y)*(1+y):=by
     have:(0:Rat)≤D*(y*y*y):=Rat.mul_nonneg (by grind) (Rat.mul_nonneg (Rat.mul_nonneg (by grind) (by grind)) (by grind))
     grind
    exact Rat.le_of_mul_le_mul_right k (by grind)
   have t4:(-y+y*y)*288230376151711744≤ -y*288230376151711744+y:=by
    have:=Rat.mul_le_mul_of_nonneg_left hs (show (0:Rat)≤y by grind)
    grind
   have t5:=Rat.mul_le_mul_of_nonneg_left t4 (show (0:Rat)≤(D:Rat) by grind)
   have t6:(X1-D)*288230376151711744≤D*(-y*288230376151711744+y):=by grind
   have t7:=Rat.mul_le_mul_of_nonneg_left t6 (show (0:Rat)≤2^pl by grind)
   grind
 ·apply st_gt hD
  rw [←hpl,pw_nat]
  apply Rat.intCast_lt_intCast.1
  rw [Rat.intCast_mul,Rat.intCast_mul,Rat.intCast_sub,c2P,cD,cx2,cc,←hy]
  cases neg
  ·rw [if_neg (by decide)] at hb
   rw [if_neg (by decide)]
   have t1:=hb.2 3
   rw [EE_3] at t1
   have yy:=Rat.mul_pos hy0 hy0
   have t2:=Rat.mul_pos hP yy
   have t3:D*y<(x.2:Rat)-D:=by grind
   have t4:=Rat.mul_lt_mul_of_pos_left t3 pp
   grind
  ·rw [if_pos rfl] at hb
   rw [if_pos rfl]
   obtain ⟨-,T,b⟩:=hb
   have g:=EE_geo (c:=y) (by grind) (by grind) T
   have g2:0<y^T:=by
    clear b g
    induction T with
    |zero=>rw [Rat.pow_zero];grind
    |succ T ih=>rw [Rat.pow_succ];exact Rat.mul_pos ih hy0
   have t3:D*(1-y)<(x.2:Rat):=by
    apply Rat.not_le.1
    intro h9
    have E0:=EE_nonneg y (by grind) T
    have k1:=Rat.mul_le_mul_of_nonneg_right h9 E0
    have k2:=Rat.mul_le_mul_of_nonneg_left g (show (0:Rat)≤(D:Rat) by grind)
    have k3:=Rat.mul_pos hP g2
    generalize EE y T=Ey at *
    generalize y^T=yT at *
    grind
   have t4:=Rat.mul_lt_mul_of_pos_left t3 pp
   grind
theorem rnd_big_ch {V mode X:Int} {ch:Bool} (h:Rnd 2 V mode X ch) (F:Nat) (hF:F=2100) (hV:((2^F:Nat):Int)≤V):ch=true:=by
 obtain ⟨l,hl,e⟩:=h
 have top:rT 2 9218868437227405312=((2^F:Nat):Int):=by
  have:=rT_nat 2 9218868437227405312
  obtain ⟨F0,h0,h1⟩:=rvi_tv9
  rw [h1,←Nat.pow_add,show F0+2=F by omega] at this
  exact this
 have lt1:=rT_mono 2 (show (9218868437227405311:Int)<9218868437227405312 by omega)
 rw [top] at lt1
 have hc:cR 2 V 9218868437227405311<0:=by unfold cR;exact (cmpI_lt _ _).2 (by omega)
 have hl2:IsLow (cR 2 V) 9218868437227405311:=⟨by omega,by omega,.inr (by omega),.inl rfl⟩
 have el:=low_uniq hl hl2
 subst el
 have f:=congrArg Prod.snd e
 simp only at f
 rw [f]
 unfold ansR
 rw [if_neg (by omega)]
 split<;>rfl
theorem huge_x (mode:Int) (m0:0≤mode) (m1:mode≤4):numX false 1 2000 mode=bigX mode∧numC false 1 2000 mode=true:=by
 have n:=number_rnd false 1 2000 mode 2 m0 m1 (fun h=>rfl) (by decide)
 obtain ⟨F,hF⟩: ∃F,F=2100:=⟨_,rfl⟩
 obtain ⟨G,hG⟩: ∃G,G=3076:=⟨_,rfl⟩
 have eG:((2000:Int)+1074+((2:Nat):Int)).toNat=G:=by omega
 rw [eG] at n
 have hV:((2^F:Nat):Int)≤sg false ((1*2^G:Nat):Int):=by
  rw [Nat.one_mul]
  exact Int.ofNat_le.2 (Nat.pow_le_pow_right (by omega) (by omega))
 exact ⟨rnd_big n F hF hV,rnd_big_ch n F hF hV⟩
theorem tiny_x (mode:Int) (m0:0≤mode) (m1:mode≤4):numX false 1 (-2000) mode=vX 1 mode∧numC false 1 (-2000) mode=true:=by
 obtain ⟨p,hp⟩: ∃p,p=2000:=⟨_,rfl⟩
 obtain ⟨z,hz⟩: ∃z,z=1075:=⟨_,rfl⟩
 have r:=prog_st 1 p mode m0 m1
 have e1:nrm 1 (-(p:Int))=(1,-2000):=by rw [hp];decide
 have e2:st (1:Int) (2^p)=1:=st_tiny (n:=1) hz (by omega) (by rw [Nat.one_mul];exact Nat.pow_lt_pow_right (by omega) (by omega))
 rw [e1,e2] at r
 have e3:rX ((1:Int),(-2000:Int)) mode=numX false 1 (-2000) mode:=rfl
 have e4:rC ((1:Int),(-2000:Int)) mode=numC false 1 (-2000) mode:=rfl
 rw [e3,e4] at r
 exact ⟨vX_of m0 m1 r,rnd_odd r (by decide)⟩
theorem top_le (m:Nat) (e a:Int) (h:(bl m:Int)+e≤a):dyQ m e*2^(-a).toNat≤2^a.toNat:=by
 have h1:=dyQ_eq m e
 have P:=pow2_pos (-e).toNat
 have h2:m*2^e.toNat*2^(-a).toNat≤2^a.toNat*2^(-e).toNat:=by
  have:m*2^e.toNat*2^(-a).toNat≤2^bl m*2^e.toNat*2^(-a).toNat:=Nat.mul_le_mul_right _ (Nat.mul_le_mul_right _ (Nat.le_of_lt (lt_bl m)))
  refine Nat.le_trans this ?_
  rw [←Nat.pow_add,←Nat.pow_add,←Nat.pow_add]
  exact Nat.pow_le_pow_right (by omega) (by omega)
 have h3:=Rat.natCast_le_natCast.2 h2
 rw [cast_mul,cast_mul,cast_mul,two_cast,two_cast,two_cast,two_cast] at h3
 refine Rat.le_of_mul_le_mul_left (c:=(2:Rat)^(-e).toNat) ?_ P
 rw [←Rat.mul_assoc,h1]
 grind
theorem top_ge (m:Nat) (e a:Int) (hm:0<m) (h:a≤(bl m:Int)+e-1):2^a.toNat≤dyQ m e*2^(-a).toNat:=by
 have h1:=dyQ_eq m e
 have P:=pow2_pos (-e).toNat
 have hb:=pow_bl m hm
 have hb0:=(bl_pos m).2 hm
 have h2:2^a.toNat*2^(-e).toNat≤m*2^e.toNat*2^(-a).toNat:=by
  have:2^(bl m-1)*2^e.toNat*2^(-a).toNat≤m*2^e.toNat*2^(-a).toNat:=Nat.mul_le_mul_right _ (Nat.mul_le_mul_right _ hb)
  refine Nat.le_trans ?_ this
  rw [←Nat.pow_add,←Nat.pow_add,←Nat.pow_add]
  exact Nat.pow_le_pow_right (by omega) (by omega)
 have h3:=Rat.natCast_le_natCast.2 h2
 rw [cast_mul,cast_mul,cast_mul,two_cast,two_cast,two_cast,two_cast] at h3
 refine Rat.le_of_mul_le_mul_left (c:=(2:Rat)^(-e).toNat) ?_ P
 rw [←Rat.mul_assoc,h1]
 grind
theorem xp_ok {D:Dy} (h0:D.1≠0) (hm:D.1.natAbs<2^53) (he: -1074≤D.2∧D.2≤1024) (ht:topD D<10):XpOK D.1.natAbs D.2 1024:=by
 have hbl:=(bl_le _ _).2 hm
 unfold topD at ht
 have h10:=top_le D.1.natAbs D.2 10 (by omega)
 refine ⟨by omega,lt_1280 hm,by omega,by omega,Nat.le_trans (len_le (Nat.le_of_lt hm) (by omega)) (show 10≤100 by omega),rfl,?_,by unfold sN;omega⟩
 rw [show (-(10:Int)).toNat=0 by decide,show (10:Int).toNat=10 by decide] at h10
 have:((1024:Nat):Rat)=1024:=rfl
 grind
theorem fv_nz (x:Int) (h0:0≤x) (h1:x<18446744073709551616) (hc1:classOf x≠1):(fv x).1≠0:=by
 intro h2
 have h3:=fv_sgn9 x h0 h1
 rw [h2] at h3
 have h4:cmpI (rankOf x) 0=0:=by rw [←h3];decide
 have h5:=(cmpI_eq_zero _ _).1 h4
 have h6:absOf x≠0:=fun h=>hc1 ((class_zer x h0 h1).2 h)
 unfold rankOf at h5
 unfold absOf at h6
 split at h5<;>omega
def ngD (D:Dy):Bool:=decide (D.1<0)
def sdD (D:Dy):Int:=if D.1<0 then -1 else 1
theorem ite_two {P:Prop} [Decidable P] {A B A' B' G:Prop} (h:if P then A else B) (k:if P then A' else B') (f:A→A'→G) (g:B→B'→G):G:=by
 by_cases hp:P
 ·rw [if_pos hp] at h k;exact f h k
 ·rw [if_neg hp] at h k;exact g h k
def XpSaid (x mode X:Int) (ch:Bool):Prop:=
 if classOf x=5 then X=9221120237041090560∧ch=false else if classOf x=1 then X=4607182418800017408∧ch=false else if x=9218868437227405312 then X=x∧ch=false else if x=18442240474082181120 then X=0∧ch=false else if topD (fv x)< -60 then X=bsX (nrm 1 0) (sdD (fv x)) mode∧ch=bsC (nrm 1 0) (sdD (fv x)) mode else if 10≤topD (fv x)∧(fv x).1<0 then X=vX 1 mode∧ch=true else if 10≤topD (fv x) then X=bigX mode∧ch=true else ExR (ngD (fv x)) (dyQ (fv x).1.natAbs (fv x).2) false mode X∧ch=true
theorem XpSaid.uniq {x mode X Y:Int} {c d:Bool} (h:XpSaid x mode X c) (k:XpSaid x mode Y d):X=Y∧c=d:=by
 have v: ∀ {a:Int} {b:Bool},X=a∧c=b→Y=a∧d=b→X=Y∧c=d:=fun h k=>⟨h.1.trans k.1.symm,h.2.trans k.2.symm⟩
 unfold XpSaid at h k
 exact ite_two h k v fun h k=>ite_two h k v fun h k=>ite_two h k v fun h k=>ite_two h k v fun h k=>ite_two h k v fun h k=>ite_two h k v fun h k=>ite_two h k v fun h k=>⟨ExR.uniq (dyQ_nonneg _ _) h.1 k.1,h.2.trans k.2.symm⟩
def XmSaid (x mode X:Int) (ch:Bool):Prop:=
 if classOf x=5 then X=9221120237041090560∧ch=false else if classOf x=1∨x=9218868437227405312 then X=x∧ch=false else if x=18442240474082181120 then X=13830554455654793216∧ch=false else if topD (fv x)< -60 then X=bsX (fv x) 1 mode∧ch=bsC (fv x) 1 mode else if 6≤topD (fv x)∧(fv x).1<0 then X=bsX (negD (nrm 1 0)) 1 mode∧ch=bsC (negD (nrm 1 0)) 1 mode else if 10≤topD (fv x) then X=bigX mode∧ch=true else ExR (ngD (fv x)) (dyQ (fv x).1.natAbs (fv x).2) true mode X∧ch=true
theorem XmSaid.uniq {x mode X Y:Int} {c d:Bool} (h:XmSaid x mode X c) (k:XmSaid x mode Y d):X=Y∧c=d:=by
 have v: ∀ {a:Int} {b:Bool},X=a∧c=b→Y=a∧d=b→X=Y∧c=d:=fun h k=>⟨h.1.trans k.1.symm,h.2.trans k.2.symm⟩
 unfold XmSaid at h k
 exact ite_two h k v fun h k=>ite_two h k v fun h k=>ite_two h k v fun h k=>ite_two h k v fun h k=>ite_two h k v fun h k=>ite_two h k v fun h k=>⟨ExR.uniq (dyQ_nonneg _ _) h.1 k.1,h.2.trans k.2.symm⟩
end Go.Ulp
namespace Go.Proofs.YtehhegbkahnhgaaGreatDoor
open Go.RowKit Go.Ulp
set_option maxHeartbeats 4000000
set_option maxRecDepth 100000
theorem of1_any (L1:List Nat) (h:L1=limbs 1) (w:World):Calls Tryz.prog 66 #[.int .u64 1] w fun e w'=> ∃a c,e=.returned (.slice a L1.length c)∧Ns .u32 w' a c L1∧Below w.heap.size w w':=by
 rw [h]
 exact (natOf_any 1 (by omega) w).mono (fun _ _ h=>by obtain ⟨a,h1,h2,h3⟩:=h;exact ⟨a,_,h1,h2,h3⟩)
theorem tiny_any (w:World):Calls Tryz.prog 46 #[] w (RetDy w false 1 (-2000)):=by
 obtain ⟨L1,hL1⟩: ∃L,L=limbs 1:=⟨_,rfl⟩
 have OF:=hid (fun w=>of1_any L1 hL1 w)
 have yb:=below_alloc w (.cells #[.bool false,.slice none 0 0,.int .i64 0] 38)
 have zR:QL 38 (w.alloc (.cells #[.bool false,.slice none 0 0,.int .i64 0] 38)) w.heap.size false (.slice none 0 0) 0:=QL.made rfl
 have HE:=hid (show ∀(en:Ending) (w':World),(∃am cm,en=.returned (.agg #[.bool false,.slice am L1.length cm,.int .i64 (-2000)])∧Ns .u32 w' am cm L1∧Below w.heap.size w w')→RetDy w false 1 (-2000) en w' from fun en w' h=>by rw [hL1] at h;exact h)
 clear hL1
 go_enter Tryz.func46,Tryz.ntmps46
 go_wp2_with (go_at_call 66;(with_reducible refine (OF.out _).mono ?_);rintro en w1 ⟨a1,c1,rfl,n1,hb1⟩;have zR2:=zR.below hb1;obtain ⟨⟨k0,k1,f0,f1,hs2⟩,k2,f2⟩:=id zR2)
 refine bodyPost_ret (by simp [results,Tryz.results46,go_sem,k0,k1,k2];try rfl) rfl ?_
 exact HE.out _ _ ⟨a1,c1,rfl,n1.set3 zR2 (by intro x h;cases h) _ _ _,Go.Ulp.Below.put3 (below_trans yb hb1) (Nat.le_refl _) _ _ _⟩
theorem huge_any (w:World):Calls Tryz.prog 47 #[.bool false] w (RetDy w false 1 2000):=by
 obtain ⟨L1,hL1⟩: ∃L,L=limbs 1:=⟨_,rfl⟩
 have OF:=hid (fun w=>of1_any L1 hL1 w)
 have yb:=below_alloc w (.cells #[.bool false,.slice none 0 0,.int .i64 0] 38)
 have zR:QL 38 (w.alloc (.cells #[.bool false,.slice none 0 0,.int .i64 0] 38)) w.heap.size false (.slice none 0 0) 0:=QL.made rfl
 have HE:=hid (show ∀(en:Ending) (w':World),(∃am cm,en=.returned (.agg #[.bool false,.slice am L1.length cm,.int .i64 2000])∧Ns .u32 w' am cm L1∧Below w.heap.size w w')→RetDy w false 1 2000 en w' from fun en w' h=>by rw [hL1] at h;exact h)
 clear hL1
 go_enter Tryz.func47,Tryz.ntmps47
 go_wp2_with (go_at_call 66;(with_reducible refine (OF.out _).mono ?_);rintro en w1 ⟨a1,c1,rfl,n1,hb1⟩;have zR2:=zR.below hb1;obtain ⟨⟨k0,k1,f0,f1,hs2⟩,k2,f2⟩:=id zR2)
 refine bodyPost_ret (by simp [results,Tryz.results47,go_sem,k0,k1,k2];try rfl) rfl ?_
 exact HE.out _ _ ⟨a1,c1,rfl,n1.set3 zR2 (by intro x h;cases h) _ _ _,Go.Ulp.Below.put3 (below_trans yb hb1) (Nat.le_refl _) _ _ _⟩
end Go.Proofs.YtehhegbkahnhgaaGreatDoor
namespace Go.Ulp
open Go.RowKit
def QVr (tq ti:TypeId) (w:World) (g:Nat) (D:Dy) (A T:Nat):Prop:= ∃n s k,QL tq w g n s k∧QD ti w D A T (.agg #[.bool n,s,.int .i64 k])
theorem QVr.below {tq ti:TypeId} {w w':World} {g:Nat} {D:Dy} {A T:Nat} (h:QVr tq ti w g D A T) (hb:Below w.heap.size w w'):QVr tq ti w' g D A T:=by
 obtain ⟨n,s,k,h1,h2⟩:=h;exact ⟨n,s,k,h1.below hb,h2.below hb⟩
theorem QVr.put {tq ti:TypeId} {w:World} {g:Nat} {n:Bool} {v:Value} {k:Int} {X:Int} {a:Option Addr} {c m:Nat} {D:Dy} {A T:Nat} (z:QL tq w g n v k) (hne:tq≠ti) (h:Nz ti w a c (zl X)) (hD:nrm X (-(m:Int))=D) (hX:X.natAbs<2^A) (hn:m≤T):
 QVr tq ti (((w.setCell ⟨g,0,none⟩ (.bool (zneg X))).setCell ⟨g,1,none⟩ (.slice a (zl X).length c)).setCell ⟨g,2,none⟩ (.int .i64 (m:Int))) g D A T:=
 ⟨_,_,_,z.put _ _ _,⟨X,m,a,c,rfl,h.set3Q z hne _ _ _,hD,hX,hn⟩⟩
def RetLB (w:World) (Said:Int→Bool→Prop) (en:Ending) (w':World):Prop:= ∃X ch,Said X ch∧RetX w X ch en w'
end Go.Ulp
namespace Go.Proofs.YtehhegbkahnhgaaGreatDoor
open Go.RowKit Go.Ulp
set_option maxHeartbeats 4000000
set_option maxRecDepth 100000
end Go.Proofs.YtehhegbkahnhgaaGreatDoor
namespace Go.Ulp
open Go.RowKit
theorem abs_top (x:Int) (h0:0≤x) (h1:x<18446744073709551616) (hnz:(fv x).1≠0):(cmpD (absD (fv x)) (nrm 1 (-70))<0→topD (fv x)< -60∧x<13830554455654793216)∧(¬cmpD (absD (fv x)) (nrm 1 (-70))<0→ -70≤topD (fv x)):=by
 obtain ⟨-,b1,b2,b3⟩:=fv_bd x h0 h1
 have hI:IsN (fv x):=nrm_isN _ _
 have e0:=nrm_of_isN (fv x) hI
 obtain ⟨z,hz⟩: ∃z,z=1200:=⟨_,rfl⟩
 have ea:absD (fv x)=nrm (((fv x).1.natAbs:Nat):Int) (fv x).2:=by
  conv=>lhs;rw [←e0]
  rw [←nrm_natAbs]
 have c:=cmp_nrm (((fv x).1.natAbs:Nat):Int) (fv x).2 1 (-70) (-(z:Int)) (.inl (by omega)) (.inl (by omega))
 rw [←ea] at c
 unfold sc at c
 obtain ⟨f,hf⟩: ∃f,f=((fv x).2- -(z:Int)).toNat:=⟨_,rfl⟩
 obtain ⟨k,hk⟩: ∃k,k=((-70:Int)- -(z:Int)).toNat:=⟨_,rfl⟩
 rw [←hf,←hk,Int.one_mul,pw_nat,pw_nat,←Int.natCast_mul] at c
 rw [←c]
 have hM0:0<(fv x).1.natAbs:=by omega
 have p1:=pow_bl (fv x).1.natAbs hM0
 have p2:=lt_bl (fv x).1.natAbs
 have hb:=(bl_pos (fv x).1.natAbs).2 hM0
 unfold topD
 constructor
 ·intro h
  have h2:=Int.ofNat_lt.1 ((cmpI_lt _ _).1 h)
  have h3:2^(bl (fv x).1.natAbs-1+f)<2^k:=by
   rw [Nat.pow_add]
   exact Nat.lt_of_le_of_lt (Nat.mul_le_mul_right _ p1) h2
  have h4:=(Nat.pow_lt_pow_iff_right (a:=2) (by omega)).1 h3
  refine ⟨by omega,?_⟩
  rcases Int.lt_or_le x 13830554455654793216 with h9|h9
  ·exact h9
  ·exfalso
   have c1:=cmp_nrm (fv x).1 (fv x).2 (-1) 0 (-(z:Int)) (.inl (by omega)) (.inl (by omega))
   rw [e0,←fv_m1,cmp_fv x _ h0 h1 (by omega) (by omega)] at c1
   have c2:cmpI (rankOf x) (rankOf 13830554455654793216)≤0:=by
    apply (cmpI_le _ _).2
    have e:rankOf 13830554455654793216= -4607182418800017408:=by decide
    rw [e]
    unfold rankOf
    rw [if_pos (by omega)]
    omega
   rw [←c1] at c2
   have c3:=(cmpI_le _ _).1 c2
   unfold sc at c3
   rw [←hf,Int.neg_mul,Int.one_mul,show ((0:Int)- -(z:Int)).toNat=z by omega] at c3
   have c4:((fv x).1*pw f).natAbs=(fv x).1.natAbs*2^f:=natAbs_mul_pw _ _
   have c5:2^k≤2^z:=Nat.pow_le_pow_right (by omega) (by omega)
   rw [pw_nat z] at c3
   generalize (fv x).1*pw f=y at *
   omega
 ·intro h
  have h2:2^k≤(fv x).1.natAbs*2^f:=by
   have: ¬(((fv x).1.natAbs*2^f:Nat):Int)<((2^k:Nat):Int):=fun h3=>h ((cmpI_lt _ _).2 h3)
   omega
  have h3:2^k<2^(bl (fv x).1.natAbs+f):=by
   rw [Nat.pow_add]
   exact Nat.lt_of_le_of_lt h2 ((Nat.mul_lt_mul_right (Nat.two_pow_pos f)).2 p2)
  have h4:=(Nat.pow_lt_pow_iff_right (a:=2) (by omega)).1 h3
  omega
end Go.Ulp
namespace Go.Proofs.YtehhegbkahnhgaaGreatDoor
open Go.RowKit Go.Ulp
set_option maxHeartbeats 4000000
set_option maxRecDepth 100000
theorem roundedS_any (v:Value) (D:Dy) (A T:Nat) (side mode:Int) (w:World) (hq:QD 3 w D A T v) (hI:IsN D) (hA:A≤10000000) (hT:T≤200000) (m0:0≤mode) (m1:mode≤4) (hs:side= -1∨side=0∨side=1):
 Calls Tryz.prog 39 #[v,.int .i64 side,.int .i64 mode] w (RetX w (bsX D side mode) (bsC D side mode)):=by
 refine (rounded_any v D A T side mode w hq hA hT hs).mono (fun en w' h=>?_)
 obtain ⟨l,hl,he,hb⟩:=h
 have e0:nrm (sg (decide (D.1<0)) (D.1.natAbs:Int)) D.2=D:=by rw [sg_self];exact nrm_of_isN D hI
 have r:=rounded_num (decide (D.1<0)) D.1.natAbs D.2 side mode l m0 m1 (fun h=>decide_eq_false (by omega)) hs (by rw [e0];exact hl)
 rw [e0] at r
 rw [r] at he
 exact ⟨he,hb⟩
end Go.Proofs.YtehhegbkahnhgaaGreatDoor
namespace Go.Ulp
open Go.RowKit
theorem exr_big_o {y:Rat} {o:Bool} {mode X:Int} (hy:(720:Rat)≤y) (h:ExR false y o mode X):X=bigX mode:=by
 obtain ⟨D,x,c1,c2,hD,hb,h1,h2,h3,h4⟩:=h
 obtain ⟨F,hF⟩: ∃F,F=2100:=⟨_,rfl⟩
 refine rnd_big h2 F hF ?_
 unfold ExB at hb
 rw [if_neg (by decide)] at hb
 obtain ⟨T,hT⟩:=EE_7k 102 6
 have e7:((7*102+6:Nat):Rat)=720:=rfl
 rw [e7,show 10*102+6=1024+2 from rfl] at hT
 obtain ⟨k,hk⟩: ∃k,k=1024:=⟨_,rfl⟩
 rw [←hk] at hT
 have a:=EE_arg (by grind) hy T
 have b:=hb.2 T
 have P:=pow2_pos k
 have m1:=pow2_add k 2
 have hE:(2:Rat)^k*4≤EE y T:=by
  have:(2:Rat)^2=4:=by grind
  rw [m1,this] at hT
  grind
 have c:=Rat.mul_le_mul_of_nonneg_left hE (Rat.natCast_nonneg (a:=D))
 have d:((D*(2^k*4):Nat):Rat)≤(x.2:Rat):=by
  rw [cast_mul,cast_mul,two_cast]
  have:((4:Nat):Rat)=4:=rfl
  rw [this]
  grind
 have d2:=Rat.natCast_le_natCast.1 d
 rw [←Nat.mul_assoc] at d2
 have d3:D≤D*2^k:=Nat.le_mul_of_pos_right D (Nat.two_pow_pos k)
 have hx:((D*2^k:Nat):Int)≤(x.2:Int)-oD o D:=by
  unfold oD
  generalize D*2^k=u at *
  cases o
  ·simp only [Bool.false_eq_true,if_false];omega
  ·simp only [if_true];omega
 obtain ⟨z,hz⟩: ∃z,z=1075:=⟨_,rfl⟩
 have key:((2^(k+z):Nat):Int)*(D:Int)≤((x.2:Int)-oD o D)*pw 1075:=by
  have h9:=Int.mul_le_mul_of_nonneg_right hx (Int.le_of_lt (pw_pos z))
  rw [←hz]
  refine Int.le_trans (Int.le_of_eq ?_) h9
  rw [pw_nat,←Int.natCast_mul,←Int.natCast_mul,Nat.pow_add,Nat.mul_comm,←Nat.mul_assoc]
 have hq:=Int.le_ediv_of_mul_le (show (0:Int)<(D:Int) by omega) key
 have e9:2^F=2*2^(k+z):=by rw [show F=1+(k+z) by omega,Nat.pow_add]
 rw [e9]
 unfold st
 generalize ((x.2:Int)-oD o D)*pw 1075/(D:Int)=q at *
 split<;>omega
theorem dy_scal (m:Nat) (e:Int) (z:Nat) (he: -(z:Int)≤e):(2:Rat)^z*dyQ m e=((m*2^(e+z).toNat:Nat):Rat):=by
 have h:=dyQ_shift m e z
 rw [show (-(e+(z:Int))).toNat=0 by omega] at h
 rw [cast_mul,two_cast]
 grind
theorem sg_mul9 (n:Bool) (a b:Int):sg n (a*b)=sg n a*b:=by
 unfold sg
 split
 ·rw [Int.neg_mul]
 ·rfl
theorem cmp_k (D:Dy) (k:Int) (hI:IsN D) (z:Nat) (hz: -(z:Int)≤D.2):cmpD D (nrm k 0)=cmpI (sg (decide (D.1<0)) ((D.1.natAbs*2^(D.2+z).toNat:Nat):Int)) (k*((2^z:Nat):Int)):=by
 have c:=cmp_nrm D.1 D.2 k 0 (-(z:Int)) (.inl hz) (.inl (by omega))
 rw [nrm_of_isN D hI] at c
 unfold sc at c
 rw [show ((0:Int)- -(z:Int)).toNat=z by omega,show (D.2- -(z:Int)).toNat=(D.2+z).toNat by congr 1;omega,pw_nat,pw_nat] at c
 rw [←c,Int.natCast_mul,sg_mul9,sg_self]
theorem gt_dy {D:Dy} (hI:IsN D) (hz: -1074≤D.2) (k:Nat) (h:0<cmpD D (nrm (k:Int) 0)): ¬D.1<0∧(k:Rat)≤dyQ D.1.natAbs D.2:=by
 obtain ⟨z,hz9⟩: ∃z,z=1074:=⟨_,rfl⟩
 rw [cmp_k D k hI z (by omega)] at h
 have s:=dy_scal D.1.natAbs D.2 z (by omega)
 have P:=pow2_pos z
 generalize D.1.natAbs*2^(D.2+z).toNat=N at *
 have h2:=(cmpI_gt _ _).1 h
 have hk:(0:Int)≤(k:Int)*((2^z:Nat):Int):=Int.mul_nonneg (Int.natCast_nonneg _) (Int.natCast_nonneg _)
 by_cases hd:D.1<0
 ·rw [decide_eq_true hd] at h2
  exfalso
  have:sg true (N:Int)= -(N:Int):=rfl
  omega
 ·refine ⟨hd,?_⟩
  rw [decide_eq_false hd,show sg false (N:Int)=(N:Int) from rfl,←Int.natCast_mul] at h2
  have h3:=Rat.natCast_le_natCast.2 (Nat.le_of_lt (Int.ofNat_lt.1 h2))
  rw [cast_mul,two_cast,←s] at h3
  refine Rat.le_of_mul_le_mul_left (c:=(2:Rat)^z) ?_ P
  grind
theorem lt_dy {D:Dy} (hI:IsN D) (hz: -1074≤D.2) (k:Nat) (h:cmpD D (nrm (-(k:Int)) 0)<0):D.1<0∧(k:Rat)≤dyQ D.1.natAbs D.2:=by
 obtain ⟨z,hz9⟩: ∃z,z=1074:=⟨_,rfl⟩
 rw [cmp_k D _ hI z (by omega)] at h
 have s:=dy_scal D.1.natAbs D.2 z (by omega)
 have P:=pow2_pos z
 generalize D.1.natAbs*2^(D.2+z).toNat=N at *
 have h2:=(cmpI_lt _ _).1 h
 have hk:(0:Int)≤(k:Int)*((2^z:Nat):Int):=Int.mul_nonneg (Int.natCast_nonneg _) (Int.natCast_nonneg _)
 rw [Int.neg_mul] at h2
 by_cases hd:D.1<0
 ·refine ⟨hd,?_⟩
  rw [decide_eq_true hd,show sg true (N:Int)= -(N:Int) from rfl,←Int.natCast_mul] at h2
  have h3:=Rat.natCast_le_natCast.2 (Int.ofNat_le.1 (show (((k*2^z:Nat):Int)≤(N:Int)) by omega))
  rw [cast_mul,two_cast,←s] at h3
  refine Rat.le_of_mul_le_mul_left (c:=(2:Rat)^z) ?_ P
  grind
 ·rw [decide_eq_false hd] at h2
  exfalso
  have:sg false (N:Int)=(N:Int):=rfl
  omega
theorem in_dy {D:Dy} (hI:IsN D) (hz: -1074≤D.2) (k l:Nat) (h: ¬0<cmpD D (nrm (k:Int) 0)) (h': ¬cmpD D (nrm (-(l:Int)) 0)<0):(¬D.1<0→dyQ D.1.natAbs D.2≤(k:Rat))∧(D.1<0→dyQ D.1.natAbs D.2≤(l:Rat)):=by
 obtain ⟨z,hz9⟩: ∃z,z=1074:=⟨_,rfl⟩
 rw [cmp_k D _ hI z (by omega),cmpI_gt] at h
 rw [cmp_k D _ hI z (by omega),cmpI_lt] at h'
 have s:=dy_scal D.1.natAbs D.2 z (by omega)
 have P:=pow2_pos z
 generalize D.1.natAbs*2^(D.2+z).toNat=N at *
 rw [Int.neg_mul,←Int.natCast_mul] at h'
 rw [←Int.natCast_mul] at h
 constructor
 ·intro hd
  rw [decide_eq_false hd,show sg false (N:Int)=(N:Int) from rfl] at h
  have h3:=Rat.natCast_le_natCast.2 (Int.ofNat_le.1 (show ((N:Int)≤((k*2^z:Nat):Int)) by omega))
  rw [cast_mul,two_cast,←s] at h3
  refine Rat.le_of_mul_le_mul_left (c:=(2:Rat)^z) ?_ P
  grind
 ·intro hd
  rw [decide_eq_true hd,show sg true (N:Int)= -(N:Int) from rfl] at h'
  have h3:=Rat.natCast_le_natCast.2 (Int.ofNat_le.1 (show ((N:Int)≤((l*2^z:Nat):Int)) by omega))
  rw [cast_mul,two_cast,←s] at h3
  refine Rat.le_of_mul_le_mul_left (c:=(2:Rat)^z) ?_ P
  grind
theorem top_lt (D:Dy) (a:Int) (h:topD D<a):dyQ D.1.natAbs D.2*2^(-a).toNat≤2^a.toNat:=top_le _ _ _ (by unfold topD at h;omega)
theorem top_gt (D:Dy) (a:Int) (h0:D.1≠0) (h:a≤topD D):2^a.toNat≤dyQ D.1.natAbs D.2*2^(-a).toNat:=top_ge _ _ _ (by omega) (by unfold topD at h;omega)
def XpNum (D:Dy) (mode X:Int) (ch:Bool):Prop:=if topD D< -60 then X=bsX (nrm 1 0) (sdD D) mode∧ch=bsC (nrm 1 0) (sdD D) mode else if 10≤topD D∧D.1<0 then X=vX 1 mode∧ch=true else if 10≤topD D then X=bigX mode∧ch=true else ExR (ngD D) (dyQ D.1.natAbs D.2) false mode X∧ch=true
theorem xp_num {x mode X:Int} {ch:Bool} (c5:classOf x≠5) (c1:classOf x≠1) (ci:x≠9218868437227405312) (cm:x≠18442240474082181120) (h:XpSaid x mode X ch):XpNum (fv x) mode X ch:=by
 unfold XpSaid at h
 rw [if_neg c5,if_neg c1,if_neg ci,if_neg cm] at h
 exact h
def XmNum (D:Dy) (mode X:Int) (ch:Bool):Prop:=if topD D< -60 then X=bsX D 1 mode∧ch=bsC D 1 mode else if 6≤topD D∧D.1<0 then X=bsX (negD (nrm 1 0)) 1 mode∧ch=bsC (negD (nrm 1 0)) 1 mode else if 10≤topD D then X=bigX mode∧ch=true else ExR (ngD D) (dyQ D.1.natAbs D.2) true mode X∧ch=true
theorem xm_num {x mode X:Int} {ch:Bool} (c5:classOf x≠5) (c1:classOf x≠1) (ci:x≠9218868437227405312) (cm:x≠18442240474082181120) (h:XmSaid x mode X ch):XmNum (fv x) mode X ch:=by
 unfold XmSaid at h
 rw [if_neg c5,if_neg (by rintro (h|h);exact c1 h;exact ci h),if_neg cm] at h
 exact h
theorem top9_of {D:Dy} {k:Nat} {a:Int} {b:Nat} (ha:a=(b:Int)) (hk:2^b<k) (h:(k:Rat)≤dyQ D.1.natAbs D.2):a≤topD D:=by
 by_cases h9:a≤topD D
 ·exact h9
 ·exfalso
  have:=top_lt D a (by omega)
  rw [ha,show (-(b:Int)).toNat=0 by omega,show ((b:Int)).toNat=b by omega] at this
  have h3:((k:Nat):Rat)≤((2^b:Nat):Rat):=by rw [two_cast];grind
  have:=Rat.natCast_le_natCast.1 h3
  omega
theorem xp_big {D:Dy} {mode X:Int} {ch:Bool} (hI:IsN D) (hz: -1074≤D.2) (h:0<cmpD D (nrm 720 0)) (k:XpNum D mode X ch):bigX mode=X∧true=ch:=by
 obtain ⟨a,b⟩:=gt_dy hI hz 720 h
 have t:=top9_of (D:=D) (k:=720) (a:=9) (b:=9) rfl (by decide) b
 unfold XpNum at k
 rw [if_neg (by omega),if_neg (fun h=>a h.2)] at k
 by_cases cg:10≤topD D
 ·rw [if_pos cg] at k;exact ⟨k.1.symm,k.2.symm⟩
 ·rw [if_neg cg,show ngD D=false from decide_eq_false a] at k
  exact ⟨(exr_big_o b k.1).symm,k.2.symm⟩
theorem xm_big {D:Dy} {mode X:Int} {ch:Bool} (hI:IsN D) (hz: -1074≤D.2) (h:0<cmpD D (nrm 720 0)) (k:XmNum D mode X ch):bigX mode=X∧true=ch:=by
 obtain ⟨a,b⟩:=gt_dy hI hz 720 h
 have t:=top9_of (D:=D) (k:=720) (a:=9) (b:=9) rfl (by decide) b
 unfold XmNum at k
 rw [if_neg (by omega),if_neg (fun h=>a h.2)] at k
 by_cases cg:10≤topD D
 ·rw [if_pos cg] at k;exact ⟨k.1.symm,k.2.symm⟩
 ·rw [if_neg cg,show ngD D=false from decide_eq_false a] at k
  exact ⟨(exr_big_o b k.1).symm,k.2.symm⟩
theorem xp_tiny {D:Dy} {mode X:Int} {ch:Bool} (hI:IsN D) (hz: -1074≤D.2) (m0:0≤mode) (m1:mode≤4) (h:cmpD D (nrm (-760) 0)<0) (k:XpNum D mode X ch):vX 1 mode=X∧true=ch:=by
 obtain ⟨a,b⟩:=lt_dy hI hz 760 h
 have t:=top9_of (D:=D) (k:=760) (a:=9) (b:=9) rfl (by decide) b
 unfold XpNum at k
 rw [if_neg (by omega)] at k
 by_cases cg:10≤topD D
 ·rw [if_pos ⟨cg,a⟩] at k;exact ⟨k.1.symm,k.2.symm⟩
 ·rw [if_neg (fun h=>cg h.1),if_neg cg,show ngD D=true from decide_eq_true a] at k
  exact ⟨(exr_tiny m0 m1 b k.1).symm,k.2.symm⟩
theorem xm_one {D:Dy} {mode X:Int} {ch:Bool} (hI:IsN D) (hz: -1074≤D.2) (h:cmpD D (nrm (-120) 0)<0) (k:XmNum D mode X ch):bsX (nrm (-1) 0) 1 mode=X∧bsC (nrm (-1) 0) 1 mode=ch:=by
 obtain ⟨a,b⟩:=lt_dy hI hz 120 h
 have t:=top9_of (D:=D) (k:=120) (a:=6) (b:=6) rfl (by decide) b
 unfold XmNum at k
 rw [if_neg (by omega),if_pos ⟨t,a⟩,show negD (nrm 1 0)=nrm (-1) 0 by decide] at k
 exact ⟨k.1.symm,k.2.symm⟩
theorem xp_near {D:Dy} {mode X Y:Int} {ch:Bool} (hI:IsN D) (h0:D.1≠0) (hz: -1074≤D.2) (m0:0≤mode) (m1:mode≤4) (h1: ¬0<cmpD D (nrm 720 0)) (h2: ¬cmpD D (nrm (-760) 0)<0) (hY:ExR (ngD D) (dyQ D.1.natAbs D.2) false mode Y) (k:XpNum D mode X ch):Y=X∧true=ch:=by
 obtain ⟨a,b⟩:=in_dy hI hz 720 760 h1 h2
 have hy0:0<dyQ D.1.natAbs D.2:=dyQ_pos' (by omega) _
 have c720:((720:Nat):Rat)=720:=rfl
 have c760:((760:Nat):Rat)=760:=rfl
 unfold XpNum at k
 by_cases ct:topD D< -60
 ·rw [if_pos ct,show nrm 1 0=((1:Int),(0:Int)) by decide] at k
  have hs:=top_lt D (-60) ct
  rw [show (-(-60:Int)).toNat=60 by decide,show (-60:Int).toNat=0 by decide] at hs
  have hs2:dyQ D.1.natAbs D.2*1152921504606846976≤1:=by
   have:(2:Rat)^60=1152921504606846976:=by rw [←two_cast];rfl
   grind
  obtain ⟨pl,hpl⟩: ∃pl,pl=1075:=⟨_,rfl⟩
  obtain ⟨c,hc⟩: ∃c:Int,c=((2^pl:Nat):Int):=⟨_,rfl⟩
  have hc2:c=sg (decide (((1:Int),(0:Int)).1<0)) ((((1:Int),(0:Int)).1.natAbs*2^(((1:Int),(0:Int)).2+1075).toNat:Nat):Int):=by
   have e:(((1:Int),(0:Int)).2+1075).toNat=pl:=by show ((0:Int)+1075).toNat=pl;omega
   rw [e]
   show c=((1*2^pl:Nat):Int)
   rw [Nat.one_mul]
   exact hc
  by_cases hn:D.1<0
  ·have r:=bs_below (1,0) mode m0 m1 (by decide) (by decide) c hc2
   rw [show ngD D=true from decide_eq_true hn] at hY
   rw [show sdD D= -1 from if_pos hn] at k
   rw [k.1,k.2]
   exact ⟨exr_one hy0 hs2 pl hpl c hc hY (by rw [if_pos rfl];exact r),(rnd_odd r (by omega)).symm⟩
  ·have r:=bs_above (1,0) mode m0 m1 (by decide) (by decide) c hc2
   rw [show ngD D=false from decide_eq_false hn] at hY
   rw [show sdD D=1 from if_neg hn] at k
   rw [k.1,k.2]
   exact ⟨exr_one hy0 hs2 pl hpl c hc hY (by rw [if_neg (by decide)];exact r),(rnd_odd r (by omega)).symm⟩
 ·rw [if_neg ct] at k
  have cg: ¬10≤topD D:=fun cg=>by
   have:=top_gt D 10 h0 cg
   rw [show (-(10:Int)).toNat=0 by decide,show (10:Int).toNat=10 by decide] at this
   have e10:(2:Rat)^10=1024:=by rw [←two_cast];rfl
   by_cases hn:D.1<0
   ·have:=b hn;grind
   ·have:=a hn;grind
  rw [if_neg (fun h=>cg h.1),if_neg cg] at k
  exact ⟨ExR.uniq (Rat.le_of_lt hy0) hY k.1,k.2.symm⟩
theorem xm_near {D:Dy} {mode X Y:Int} {ch:Bool} (hI:IsN D) (h0:D.1≠0) (hz: -1074≤D.2) (hM:D.1.natAbs<2^53) (m0:0≤mode) (m1:mode≤4) (h1: ¬0<cmpD D (nrm 720 0)) (h2: ¬cmpD D (nrm (-120) 0)<0) (hY:ExR (ngD D) (dyQ D.1.natAbs D.2) true mode Y) (k:XmNum D mode X ch):Y=X∧true=ch:=by
 obtain ⟨a,b⟩:=in_dy hI hz 720 120 h1 h2
 have hy0:0<dyQ D.1.natAbs D.2:=dyQ_pos' (by omega) _
 have c720:((720:Nat):Rat)=720:=rfl
 have c120:((120:Nat):Rat)=120:=rfl
 obtain ⟨pl,hpl⟩: ∃pl,pl=1075:=⟨_,rfl⟩
 unfold XmNum at k
 by_cases ct:topD D< -60
 ·rw [if_pos ct] at k
  have hs:=top_lt D (-60) ct
  rw [show (-(-60:Int)).toNat=60 by decide,show (-60:Int).toNat=0 by decide] at hs
  have hs2:dyQ D.1.natAbs D.2*1152921504606846976≤1:=by
   have:(2:Rat)^60=1152921504606846976:=by rw [←two_cast];rfl
   grind
  have r:=bs_above D mode m0 m1 h0 (by omega) _ rfl
  have hy:=dy_scal D.1.natAbs D.2 pl (by omega)
  rw [show (D.2+(pl:Int)).toNat=(D.2+1075).toNat by omega] at hy
  rw [k.1,k.2]
  exact ⟨exr_x hs2 D.1.natAbs (D.2+1075).toNat pl (Nat.lt_of_lt_of_le hM (by decide)) (by omega) hpl hy _ rfl hY r,(rnd_odd r (by omega)).symm⟩
 ·rw [if_neg ct] at k
  by_cases cs:6≤topD D∧D.1<0
  ·rw [if_pos cs,show negD (nrm 1 0)=((-1:Int),(0:Int)) by decide] at k
   have h6:=top_gt D 6 h0 cs.1
   rw [show (-(6:Int)).toNat=0 by decide,show (6:Int).toNat=6 by decide] at h6
   have h64:(64:Rat)≤dyQ D.1.natAbs D.2:=by
    have e6:(2:Rat)^6=64:=by rw [←two_cast];rfl
    grind
   have hc2: -((2^pl:Nat):Int)=sg (decide (((-1:Int),(0:Int)).1<0)) ((((-1:Int),(0:Int)).1.natAbs*2^(((-1:Int),(0:Int)).2+1075).toNat:Nat):Int):=by
    have e:(((-1:Int),(0:Int)).2+1075).toNat=pl:=by show ((0:Int)+1075).toNat=pl;omega
    rw [e]
    show -((2^pl:Nat):Int)= -((1*2^pl:Nat):Int)
    rw [Nat.one_mul]
   have r:=bs_above (-1,0) mode m0 m1 (by decide) (by decide) _ hc2
   rw [show ngD D=true from decide_eq_true cs.2] at hY
   rw [k.1,k.2]
   exact ⟨exr_m1 h64 pl hpl _ rfl hY r,(rnd_odd r (by omega)).symm⟩
  ·rw [if_neg cs] at k
   have cg: ¬10≤topD D:=fun cg=>by
    have:=top_gt D 10 h0 cg
    rw [show (-(10:Int)).toNat=0 by decide,show (10:Int).toNat=10 by decide] at this
    have e10:(2:Rat)^10=1024:=by rw [←two_cast];rfl
    by_cases hn:D.1<0
    ·have:=b hn;grind
    ·have:=a hn;grind
   rw [if_neg cg] at k
   exact ⟨ExR.uniq (Rat.le_of_lt hy0) hY k.1,k.2.symm⟩
theorem xp_small {D:Dy} {mode X:Int} {ch:Bool} (ct:topD D< -60) (k:XpNum D mode X ch):bsX (nrm 1 0) (sdD D) mode=X∧bsC (nrm 1 0) (sdD D) mode=ch:=by
 unfold XpNum at k
 rw [if_pos ct] at k
 exact ⟨k.1.symm,k.2.symm⟩
theorem xm_small {D:Dy} {mode X:Int} {ch:Bool} (ct:topD D< -60) (k:XmNum D mode X ch):bsX D 1 mode=X∧bsC D 1 mode=ch:=by
 unfold XmNum at k
 rw [if_pos ct] at k
 exact ⟨k.1.symm,k.2.symm⟩
end Go.Ulp
