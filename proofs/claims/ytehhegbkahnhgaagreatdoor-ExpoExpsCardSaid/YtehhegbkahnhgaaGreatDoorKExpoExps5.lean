/- ExpoExps: what the proof leans on, part 5 (Z6 Q1). -/
import Derived.Test.YtehhegbkahnhgaaGreatDoorKExpoExps4
set_option linter.unusedVariables false
set_option linter.unusedSimpArgs false
namespace Go.Ulp
open Go.RowKit
theorem Own.drew1 {base:Nat} {e:TypeId} {k:IntKind} {w:World} {v:Value} {L:List Nat} (h:Own base e k w v L):Own base e k w.drew v L:=h
theorem Own.mono {base base':Nat} {e:TypeId} {k:IntKind} {w:World} {v:Value} {L:List Nat} (h:Own base e k w v L) (hb:base'≤base):Own base' e k w v L:=by
 obtain ⟨h1,h2⟩:=h
 refine ⟨h1,?_⟩
 rcases h2 with hn|⟨g,cap,cur,hv,hg,rest⟩
 ·exact .inl hn
 ·exact .inr ⟨g,cap,cur,hv,Nat.le_trans hb hg,rest⟩
theorem Own.made' (w:World) (e:TypeId) (l c g base:Nat) (hg:g=w.heap.size) (hb:base≤w.heap.size) (h:l≤c) (hc:c≤maxLen):Own base e .i64 (w.alloc (.cells (madeCells #[Value.int .i64 0] c) e)) (.slice (some ⟨g,0,none⟩) l c) (List.replicate l 0):=by
 subst hg
 exact (own_made w .i64 e l c h hc).mono hb
theorem mul_small {z x y:Nat} (h:z=x*y) (hx:x<10000) (hy:y<10000):z≤99980001:=by
 have:=Nat.mul_le_mul (show x≤9999 by omega) (show y≤9999 by omega)
 omega
theorem bound_succ {a k:Nat} (h:a≤k*99980001):a≤(k+1)*99980001:=Nat.le_trans h (Nat.mul_le_mul_right _ (Nat.le_succ k))
theorem dval_set (L:List Nat) (i d:Nat) (h:i<L.length):dval (L.set i d)+10000^i*L.getD i 0=dval L+10000^i*d:=val_set _ L i d h
theorem mul_inner {v' v v0 k l t x s z y:Nat} (h:v=v0+10000^k*(x*s)) (hs:v'+10000^(k+l)*t=v+10000^(k+l)*(t+z)) (hz:z=x*y):v'=v0+10000^k*(x*(s+10000^l*y)):=by
 have e4:10000^k*(x*(s+10000^l*y))=10000^k*(x*s)+10000^(k+l)*(x*y):=by
  rw [Nat.mul_add,Nat.mul_add,Nat.pow_add,Nat.mul_assoc,←Nat.mul_assoc x,Nat.mul_comm x (10000^l),Nat.mul_assoc (10000^l)]
 rw [e4,←hz];rw [Nat.mul_add] at hs;omega
theorem mul_norm {v1 v2 v k a b q r:Nat} (h1:v1+10000^(k+1)*b=v+10000^(k+1)*(b+q)) (h2:v2+10000^k*a=v1+10000^k*r) (ha:a=r+10000*q):v2=v:=by
 have e:=congrArg (fun z=>10000^k*z) ha
 simp only [Nat.mul_add] at e
 rw [Nat.mul_add,Nat.pow_succ,Nat.mul_assoc,Nat.mul_assoc] at h1
 omega
theorem zof_mul (x y:Int):zof (!zneg x==zneg y) (x.natAbs*y.natAbs)=x*y:=by
 have e:((x.natAbs*y.natAbs:Nat):Int)=(x.natAbs:Int)*(y.natAbs:Int):=Int.natCast_mul _ _
 unfold zof
 rw [e]
 by_cases hx:x<0<;>by_cases hy:y<0
 ·have zx:zneg x=true:=by simpa [zneg] using hx
  have zy:zneg y=true:=by simpa [zneg] using hy
  rw [zx,zy,show (x.natAbs:Int)= -x by omega,show (y.natAbs:Int)= -y by omega];exact Int.neg_mul_neg x y
 ·have zx:zneg x=true:=by simpa [zneg] using hx
  have zy:zneg y=false:=by simpa [zneg] using hy
  rw [zx,zy,show (x.natAbs:Int)= -x by omega,show (y.natAbs:Int)=y by omega];show -(-x*y)=x*y;rw [Int.neg_mul,Int.neg_neg]
 ·have zx:zneg x=false:=by simpa [zneg] using hx
  have zy:zneg y=true:=by simpa [zneg] using hy
  rw [zx,zy,show (x.natAbs:Int)=x by omega,show (y.natAbs:Int)= -y by omega];show -(x * -y)=x*y;rw [Int.mul_neg,Int.neg_neg]
 ·have zx:zneg x=false:=by simpa [zneg] using hx
  have zy:zneg y=false:=by simpa [zneg] using hy
  rw [zx,zy,show (x.natAbs:Int)=x by omega,show (y.natAbs:Int)=y by omega];rfl
theorem all_of_getD (L:List Nat) (n B:Nat) (hn:L.length≤n) (h: ∀j,j<n→L.getD j 0<B):AllLt B L:=by
 intro d hd
 obtain ⟨i,hi,rfl⟩:=List.getElem_of_mem hd
 have:=h i (by omega)
 rwa [getD_in _ _ hi] at this
theorem top_small (L:List Nat) (k v:Nat) (hk:k<L.length) (hv:dval L=v) (hlt:v<10000^k):L.getD k 0=0:=by
 rcases Nat.eq_zero_or_pos (L.getD k 0) with h|h
 ·exact h
 ·exfalso
  have e:=val_take_drop 10000 L k (by omega)
  rw [val_drop 10000 L k hk,Nat.mul_add] at e
  have:10000^k*1≤10000^k*L.getD k 0:=Nat.mul_le_mul_left _ h
  unfold dval at hv;omega
end Go.Ulp
namespace Go.Proofs.YtehhegbkahnhgaaGreatDoor
open Go.RowKit Go.Ulp
set_option maxHeartbeats 1000000
set_option maxRecDepth 100000
theorem run_make_int (n:Nat) (N:Int) (hN:N=(n:Int)) (hn:n≤8796093022207) (w:World):
 (Instr.makeSlice 45 (.int .i64 N) (.int .i64 N)).run Tryz.prog w=.ok (.slice (some ⟨w.heap.size,0,none⟩) n n) (w.alloc (.cells (madeCells (Value.int .i64 0).cells n) 3)):=by
 subst hN
 obtain ⟨ht,i,hi,hz,hsz,hb⟩:=ei_int
 have:=run_make (P:=Tryz.prog) w 45 3 i (.int .i64 0) ht hi hz .i64 .i64 (n:Int) (n:Int) (by omega) (by omega) (by rw [hb];omega) (by omega)
 rw [hsz,Int.toNat_natCast,Nat.mul_one] at this
 exact this
theorem zmul_fresh (a0 a1:Option Addr) (c0 c1:Nat) (x y:Int) (w:World) (h0:Nz 3 w a0 c0 (zl x)) (h1:Nz 3 w a1 c1 (zl y)) (hl0:(zl x).length≤1073741824) (hl1:(zl y).length≤1073741824):
 Calls Tryz.prog 77 #[.agg #[.bool (zneg x),.slice a0 (zl x).length c0],.agg #[.bool (zneg y),.slice a1 (zl y).length c1]] w fun e w'=>RetZF 3 w (x*y) e w':=by
 have n0:=h0.ns
 have n1:=h1.ns
 have hmk:=run_make_int ((zl x).length+(zl y).length+1) ((zl x).length+(zl y).length+1) (by omega) (by omega)
 have hfin:=hid (zof_mul x y)
 obtain ⟨na,hna⟩: ∃na,na=zneg x:=⟨_,rfl⟩
 obtain ⟨nb,hnb⟩: ∃nb,nb=zneg y:=⟨_,rfl⟩
 rw [←hna,←hnb] at hfin ⊢
 clear hna hnb h0 h1
 go_enter Tryz.func77,Tryz.ntmps77
 go_wp2_with fail
 go_region
 all_goals go_wp2_with fail
 all_goals clear hmk
 ·go_loopw [6,7,8,9,29] (fun _ _ _ _ i wr=> ∃(k:Nat) (T:List Nat),i=.int .i64 k∧k≤(zl x).length∧dval T=dval ((zl x).take k)*y.natAbs∧T.length=(zl x).length+(zl y).length+1∧(∀j,T.getD j 0≤k*99980001)∧Own (w.heap.size+1+1+1) 3 .i64 wr (.slice (some ⟨(w.heap.size+1+1+1),0,none⟩) ((zl x).length+(zl y).length+1) ((zl x).length+(zl y).length+1)) T∧ZL 47 wr w.heap.size na (.slice a0 (zl x).length c0)∧ZL 47 wr (w.heap.size+1) nb (.slice a1 (zl y).length c1)∧ZL 47 wr (w.heap.size+1+1) false (.slice none 0 0)∧ZL 47 wr (w.heap.size+1+1+1+1) (!na==nb) (.slice (some ⟨(w.heap.size+1+1+1),0,none⟩) ((zl x).length+(zl y).length+1) ((zl x).length+(zl y).length+1))∧Below w.heap.size w wr) (fun _ _ _ _ i _=>(zl x).length-(intOf i).toNat)
  case atStart=>exact ⟨0,_,rfl,by omega,by unfold dval;rw [val_replicate];simp [val],by simp,fun j=>by rw [getD_replicate];omega,Own.drew1 ((Own.made' _ _ _ _ _ _ (by first|omega|(simp;done)|(simp;omega)) (by first|omega|(simp;done)|(simp;omega)) (Nat.le_refl _) (by unfold maxLen;omega)).alloc _),ZL.drew (((((ZL.made rfl).alloc _).alloc _).alloc _).alloc _),ZL.drew ((((ZL.made (by first|omega|(simp;done)|(simp;omega))).alloc _).alloc _).alloc _),ZL.drew (((ZL.made (by first|omega|(simp;done)|(simp;omega))).alloc _).alloc _),ZL.drew (ZL.made (by first|omega|(simp;done)|(simp;omega))),by (repeat' first|(with_reducible first|apply bR|assumption|apply bN|apply bD|apply bL|apply bS)|go_size)⟩
  case round=>
   obtain ⟨k,T,rfl,hk,hv,hT,hbd,hown,zA,zB,zR,zO,hb⟩:=hrel
   have HT:=hid hT
   have HV:=hid hv
   have HB:=hid hbd
   clear hT hv hbd
   obtain ⟨kA0,kA1,-,-,-⟩:=id zA
   obtain ⟨kB0,kB1,-,-,-⟩:=id zB
   obtain ⟨kO0,kO1,-,-,-⟩:=id zO
   by_cases hka:k<(zl x).length
   ·obtain ⟨b0,o0,rfl,hc0⟩:=n0.2.2 (by omega)
    obtain ⟨dx,hdx⟩: ∃z,z=(zl x).getD k 0:=⟨_,rfl⟩
    have hdx1:dx<10000:=by rw [hdx];exact lb_dec _ (zl_dec _) k
    have hcell:wr.cell? ⟨b0,o0+k,none⟩=some (.int .i64 (dx:Int)):=by
     have h1:=hc0 k (by omega)
     have h2:=hb.cell (p:=⟨b0,o0+k,none⟩) (World.block_lt_of_cell? w _ h1)
     rw [h2,h1,hdx];rfl
    clear hc0
    have HX:=hid hdx
    clear hdx
    go_wp2_with fail
    clear hcell kA0 kA1 kB0 kB1 kO0 kO1
    obtain ⟨wo,rfl⟩: ∃wo:World,wo=wr:=⟨_,rfl⟩
    go_loopw [8,9,37] (fun _ _ i wr=> ∃(l:Nat) (U:List Nat),i=.int .i64 l∧l≤(zl y).length∧dval U=dval T+10000^k*(dx*dval ((zl y).take l))∧U.length=(zl x).length+(zl y).length+1∧(∀j,U.getD j 0≤(k+1)*99980001)∧(∀j,k+l≤j→U.getD j 0=T.getD j 0)∧Own (w.heap.size+1+1+1) 3 .i64 wr (.slice (some ⟨(w.heap.size+1+1+1),0,none⟩) ((zl x).length+(zl y).length+1) ((zl x).length+(zl y).length+1)) U∧ZL 47 wr w.heap.size na (.slice (some ⟨b0,o0,none⟩) (zl x).length c0)∧ZL 47 wr (w.heap.size+1) nb (.slice a1 (zl y).length c1)∧ZL 47 wr (w.heap.size+1+1) false (.slice none 0 0)∧ZL 47 wr (w.heap.size+1+1+1+1) (!na==nb) (.slice (some ⟨(w.heap.size+1+1+1),0,none⟩) ((zl x).length+(zl y).length+1) ((zl x).length+(zl y).length+1))∧Below w.heap.size w wr) (fun _ _ i _=>(zl y).length-(intOf i).toNat)
    case atStart=>exact ⟨0,T,rfl,by omega,by simp [dval,val],HT.out,fun j=>bound_succ (HB.out j),fun _ _=>rfl,hown,zA,zB,zR,zO,hb⟩
    case round=>
     clear hown zA zB zR zO hb
     obtain ⟨l,U,rfl,hl,hv,hU,hbd,hsm,hown,zA,zB,zR,zO,hb⟩:=hrel
     have HU:=hid hU
     have HW:=hid hv
     have HC:=hid hbd
     have HS:=hid hsm
     clear hU hv hbd hsm
     obtain ⟨kB0,kB1,-,-,-⟩:=id zB
     obtain ⟨kO0,kO1,-,-,-⟩:=id zO
     by_cases hkb:l<(zl y).length
     ·obtain ⟨b1,o1,rfl,hc1⟩:=n1.2.2 (by omega)
      obtain ⟨dy,hdy⟩: ∃z,z=(zl y).getD l 0:=⟨_,rfl⟩
      have hdy1:dy<10000:=by rw [hdy];exact lb_dec _ (zl_dec _) l
      have hcell1:wr.cell? ⟨b1,o1+l,none⟩=some (.int .i64 (dy:Int)):=by
       have h1:=hc1 l (by omega)
       have h2:=hb.cell (p:=⟨b1,o1+l,none⟩) (World.block_lt_of_cell? w _ h1)
       rw [h2,h1,hdy];rfl
      clear hc1
      have HY:=hid hdy
      clear hdy
      obtain ⟨t,ht⟩: ∃t,t=U.getD (k+l) 0:=⟨_,rfl⟩
      have ht1:t≤k*99980001:=by rw [ht,HS.out _ (Nat.le_refl _)];exact HB.out _
      have hcell2:wr.cell? ⟨(w.heap.size+1+1+1),k+l,none⟩=some (.int .i64 (t:Int)):=by
       rw [hown.cell (k+l) (by rw [HU.out];omega),ht];rfl
      have hf:=hown.free (k+l)
      obtain ⟨z,hz⟩: ∃z,z=dx*dy:=⟨_,rfl⟩
      have hz1:z≤99980001:=mul_small hz hdx1 hdy1
      have hz2:(dx:Int)*(dy:Int)=(z:Int):=by rw [hz];exact (Int.natCast_mul _ _).symm
      have HTT:=hid ht
      have HZZ:=hid hz
      clear ht hz
      go_wp2_with fail
      go_roundw
      case rel=>
       have hs:=hown.set (k+l) (t+z)
       rw [show ((t+z:Nat):Int)=(t:Int)+(z:Int) by omega] at hs
       refine ⟨l+1,_,by go_num,by omega,?_,by rw [List.length_set];exact HU.out,?_,?_,hs,zA.far _ _ (by first|omega|(simp;done)|(simp;omega)),zB.far _ _ (by first|omega|(simp;done)|(simp;omega)),zR.far _ _ (by first|omega|(simp;done)|(simp;omega)),zO.far _ _ (by first|omega|(simp;done)|(simp;omega)),hb.trans ((hown.set_below _ _).mono (by first|omega|(simp;done)|(simp;omega)))⟩
       ·have hst:=dval_set U (k+l) (t+z) (by rw [HU.out];omega)
        rw [←HTT.out] at hst
        rw [show dval ((zl y).take (l+1))=dval ((zl y).take l)+10000^l*(zl y).getD l 0 from val_take_succ _ _ _ hkb,←HY.out]
        exact mul_inner HW.out hst HZZ.out
       ·intro j
        by_cases hj:k+l=j
        ·subst hj;rw [lset_eq _ _ _ (by rw [HU.out];omega)];omega
        ·rw [lset_ne _ _ _ _ hj];exact HC.out j
       ·intro j hj
        rw [lset_ne _ _ _ _ (by omega)];exact HS.out j (by omega)
      case measure=>simp [intOf];omega
     ·have hle:l=(zl y).length:=by omega
      have HLE:=hid hle
      clear hle
      go_wp2_with fail
      go_roundw
      case rel=>
       refine ⟨k+1,U,by go_num,by omega,?_,HU.out,fun j=>by have:=HC.out j;omega,hown,zA,zB,zR,zO,hb⟩
       have:=HW.out
       rw [HLE.out,List.take_of_length_le (Nat.le_refl _),dval_zl,HV.out] at this
       rw [this,show dval ((zl x).take (k+1))=dval ((zl x).take k)+10000^k*(zl x).getD k 0 from val_take_succ _ _ _ hka,←HX.out,Nat.add_mul,Nat.mul_assoc]
      case measure=>simp [intOf];omega
   ·have hke:k=(zl x).length:=by omega
    have hvm:dval T=x.natAbs*y.natAbs:=by
     have:=HV.out;rw [hke,List.take_of_length_le (Nat.le_refl _),dval_zl] at this;exact this
    have hvl:x.natAbs*y.natAbs<10000^((zl x).length+(zl y).length):=by
     have e1:=dval_lt (zl x) (zl_dec x)
     have e2:=dval_lt (zl y) (zl_dec y)
     rw [dval_zl] at e1 e2
     rw [Nat.pow_add]
     exact Nat.mul_lt_mul'' e1 e2
    have HVM:=hid hvm
    have HVL:=hid hvl
    have hsz:=zO.lt
    clear hvm hvl hke
    go_wp2_with fail
    obtain ⟨wo,rfl⟩: ∃wo:World,wo=wr:=⟨_,rfl⟩
    clear kA0 kA1 kB0 kB1 kO0 kO1
    go_loopw [10,59] (fun _ i wr=> ∃(p:Nat) (U:List Nat),i=.int .i64 p∧p≤(zl x).length+(zl y).length+1∧dval U=x.natAbs*y.natAbs∧U.length=(zl x).length+(zl y).length+1∧(∀j,j<p→U.getD j 0<10000)∧U.getD p 0≤214741814100000000∧(∀j,p<j→U.getD j 0≤107370907050000000)∧Own (w.heap.size+1+1+1) 3 .i64 wr (.slice (some ⟨(w.heap.size+1+1+1),0,none⟩) ((zl x).length+(zl y).length+1) ((zl x).length+(zl y).length+1)) U∧ZL 47 wr (w.heap.size+1+1) false (.slice none 0 0)∧ZL 47 wr (w.heap.size+1+1+1+1) (!na==nb) (.slice (some ⟨(w.heap.size+1+1+1),0,none⟩) ((zl x).length+(zl y).length+1) ((zl x).length+(zl y).length+1))∧Below w.heap.size w wr) (fun _ i _=>(zl x).length+(zl y).length+1-(intOf i).toNat)
    case atStart=>exact ⟨0,T,rfl,by omega,HVM.out,HT.out,fun j h=>by omega,by have:=HB.out 0;omega,fun j _=>by have:=HB.out j;omega,hown,zR,zO,hb⟩
    case round=>
     clear hown zA zB zR zO hb
     obtain ⟨p,U,rfl,hp,hv,hU,hlo,hat,hhi,hown,zR,zO,hb⟩:=hrel
     have HU:=hid hU
     have HW:=hid hv
     have HLO:=hid hlo
     have HHI:=hid hhi
     clear hU hv hlo hhi
     obtain ⟨kO0,kO1,-,-,-⟩:=id zO
     by_cases hpn:p<(zl x).length+(zl y).length+1
     ·obtain ⟨t,ht⟩: ∃t,t=U.getD p 0:=⟨_,rfl⟩
      rw [←ht] at hat
      have hcell:wr.cell? ⟨(w.heap.size+1+1+1),p,none⟩=some (.int .i64 (t:Int)):=by
       rw [hown.cell p (by rw [HU.out];omega),ht];rfl
      have hf:=hown.free p
      by_cases ht1:10000≤t
      ·have hpl:p+1<(zl x).length+(zl y).length+1:=by
        rcases Nat.lt_or_ge (p+1) ((zl x).length+(zl y).length+1) with h|h
        ·exact h
        ·exfalso
         have:=top_small U p _ (by rw [HU.out];omega) HW.out (by rw [show p=(zl x).length+(zl y).length by omega];exact HVL.out)
         omega
       obtain ⟨t2,ht2⟩: ∃t2,t2=U.getD (p+1) 0:=⟨_,rfl⟩
       have ht3:t2≤107370907050000000:=by rw [ht2];exact HHI.out _ (by omega)
       have hcell2:wr.cell? ⟨(w.heap.size+1+1+1),p+1,none⟩=some (.int .i64 (t2:Int)):=by
        rw [hown.cell (p+1) (by rw [HU.out];omega),ht2];rfl
       have hf2:=hown.free (p+1)
       have HTT:=hid ht
       have HT2:=hid ht2
       clear ht ht2
       go_wp2_with fail
       go_region
       go_wp2_with fail
       go_roundw
       case rel=>
        have hs1:=hown.set (p+1) (t2+t/10000)
        have hs:=hs1.set p (t%10000)
        rw [show ((t2+t/10000:Nat):Int)=(t2:Int)+(t:Int)/10000 by omega,show ((t%10000:Nat):Int)=(t:Int)%10000 by omega] at hs
        refine ⟨p+1,_,by go_num,by omega,?_,by rw [List.length_set,List.length_set];exact HU.out,?_,?_,?_,hs.drew1,((zR.far _ _ (by first|omega|(simp;done)|(simp;omega))).far _ _ (by first|omega|(simp;done)|(simp;omega))).drew,((zO.far _ _ (by first|omega|(simp;done)|(simp;omega))).far _ _ (by first|omega|(simp;done)|(simp;omega))).drew,((hb.trans ((hown.set_below _ _).mono (by first|omega|(simp;done)|(simp;omega)))).trans ((hs1.set_below _ _).mono (by first|omega|(simp;done)|(simp;omega)))).drew⟩
        ·have h1:=dval_set U (p+1) (t2+t/10000) (by rw [HU.out];omega)
         have h2:=dval_set (U.set (p+1) (t2+t/10000)) p (t%10000) (by rw [List.length_set,HU.out];omega)
         rw [←HT2.out] at h1
         rw [lset_ne _ _ _ _ (by omega),←HTT.out] at h2
         rw [mul_norm h1 h2 (by omega)];exact HW.out
        ·intro j hj
         by_cases hjp:p=j
         ·subst hjp;rw [lset_eq _ _ _ (by rw [List.length_set,HU.out];omega)];omega
         ·rw [lset_ne _ _ _ _ hjp,lset_ne _ _ _ _ (by omega)];exact HLO.out j (by omega)
        ·rw [lset_ne _ _ _ _ (by omega),lset_eq _ _ _ (by rw [HU.out];omega)];omega
        ·intro j hj
         rw [lset_ne _ _ _ _ (by omega),lset_ne _ _ _ _ (by omega)];exact HHI.out j (by omega)
       case measure=>simp [intOf];omega
      ·have HTT:=hid ht
       clear ht
       go_wp2_with fail
       go_roundw
       case rel=>
        refine ⟨p+1,U,by go_num,by omega,HW.out,HU.out,?_,by have:=HHI.out (p+1) (by omega);omega,fun j hj=>HHI.out j (by omega),hown,zR,zO,hb⟩
        intro j hj
        by_cases hjp:p=j
        ·subst hjp;rw [←HTT.out];omega
        ·exact HLO.out j (by omega)
       case measure=>simp [intOf];omega
     ·have lU:Dec U:=all_of_getD U ((zl x).length+(zl y).length+1) 10000 (by rw [HU.out];exact Nat.le_refl _) (fun j hj=>HLO.out j (by omega))
      have HF:=hid (show zof (!na==nb) (dval U)=x*y by rw [HW.out];exact hfin.out)
      go_wp2_with fail
      obtain ⟨ao1,cap1,hval,hN1⟩:=hown.nz
      rw [hval]
      have hfr: ∀p,ao1=some p→w.heap.size≤p.block:=fun p hp=>by
       have h2:=hown
       rw [hval] at h2
       exact Nat.le_trans (by omega) (h2.fresh p hp)
      refine (trim_at _ _ _ _ _ hN1 lU).mono ?_
      rw [HF.out]
      rintro e w2 ⟨cap2,rfl,hN2,hb2⟩
      have zR2:=zR.below hb2
      have k0:=zR2.1
      have k1:=zR2.2.1
      have f0:=zR2.2.2.1
      have f1:=zR2.2.2.2.1
      have hs2:=zR2.2.2.2.2
      go_wp2_with fail
      refine bodyPost_ret (by simp [results,Tryz.results77,go_sem,k0,k1];try rfl) rfl ?_
      exact ⟨_,_,rfl,(hN2.setCell hs2 (by decide) _ _).setCell (hs2.setCell _ _) (by decide) _ _,((below_trans hb hb2).setCell (by first|omega|(simp;done)|(simp;omega)) _).setCell (by first|omega|(simp;done)|(simp;omega)) _,hfr⟩
 ·go_loopw [6,7,8,9,29] (fun _ _ _ _ i wr=> ∃(k:Nat) (T:List Nat),i=.int .i64 k∧k≤(zl x).length∧dval T=dval ((zl x).take k)*y.natAbs∧T.length=(zl x).length+(zl y).length+1∧(∀j,T.getD j 0≤k*99980001)∧Own (w.heap.size+1+1+1) 3 .i64 wr (.slice (some ⟨(w.heap.size+1+1+1+1),0,none⟩) ((zl x).length+(zl y).length+1) ((zl x).length+(zl y).length+1)) T∧ZL 47 wr w.heap.size na (.slice a0 (zl x).length c0)∧ZL 47 wr (w.heap.size+1) nb (.slice a1 (zl y).length c1)∧ZL 47 wr (w.heap.size+1+1) false (.slice none 0 0)∧ZL 47 wr (w.heap.size+1+1+1) (!na==nb) (.slice (some ⟨(w.heap.size+1+1+1+1),0,none⟩) ((zl x).length+(zl y).length+1) ((zl x).length+(zl y).length+1))∧Below w.heap.size w wr) (fun _ _ _ _ i _=>(zl x).length-(intOf i).toNat)
  case atStart=>exact ⟨0,_,rfl,by omega,by unfold dval;rw [val_replicate];simp [val],by simp,fun j=>by rw [getD_replicate];omega,Own.drew1 (Own.made' _ _ _ _ _ _ (by first|omega|(simp;done)|(simp;omega)) (by first|omega|(simp;done)|(simp;omega)) (Nat.le_refl _) (by unfold maxLen;omega)),ZL.drew (((((ZL.made rfl).alloc _).alloc _).alloc _).alloc _),ZL.drew ((((ZL.made (by first|omega|(simp;done)|(simp;omega))).alloc _).alloc _).alloc _),ZL.drew (((ZL.made (by first|omega|(simp;done)|(simp;omega))).alloc _).alloc _),ZL.drew ((ZL.made (by first|omega|(simp;done)|(simp;omega))).alloc _),by (repeat' first|(with_reducible first|apply bR|assumption|apply bN|apply bD|apply bL|apply bS)|go_size)⟩
  case round=>
   obtain ⟨k,T,rfl,hk,hv,hT,hbd,hown,zA,zB,zR,zO,hb⟩:=hrel
   have HT:=hid hT
   have HV:=hid hv
   have HB:=hid hbd
   clear hT hv hbd
   obtain ⟨kA0,kA1,-,-,-⟩:=id zA
   obtain ⟨kB0,kB1,-,-,-⟩:=id zB
   obtain ⟨kO0,kO1,-,-,-⟩:=id zO
   by_cases hka:k<(zl x).length
   ·obtain ⟨b0,o0,rfl,hc0⟩:=n0.2.2 (by omega)
    obtain ⟨dx,hdx⟩: ∃z,z=(zl x).getD k 0:=⟨_,rfl⟩
    have hdx1:dx<10000:=by rw [hdx];exact lb_dec _ (zl_dec _) k
    have hcell:wr.cell? ⟨b0,o0+k,none⟩=some (.int .i64 (dx:Int)):=by
     have h1:=hc0 k (by omega)
     have h2:=hb.cell (p:=⟨b0,o0+k,none⟩) (World.block_lt_of_cell? w _ h1)
     rw [h2,h1,hdx];rfl
    clear hc0
    have HX:=hid hdx
    clear hdx
    go_wp2_with fail
    clear hcell kA0 kA1 kB0 kB1 kO0 kO1
    obtain ⟨wo,rfl⟩: ∃wo:World,wo=wr:=⟨_,rfl⟩
    go_loopw [8,9,37] (fun _ _ i wr=> ∃(l:Nat) (U:List Nat),i=.int .i64 l∧l≤(zl y).length∧dval U=dval T+10000^k*(dx*dval ((zl y).take l))∧U.length=(zl x).length+(zl y).length+1∧(∀j,U.getD j 0≤(k+1)*99980001)∧(∀j,k+l≤j→U.getD j 0=T.getD j 0)∧Own (w.heap.size+1+1+1) 3 .i64 wr (.slice (some ⟨(w.heap.size+1+1+1+1),0,none⟩) ((zl x).length+(zl y).length+1) ((zl x).length+(zl y).length+1)) U∧ZL 47 wr w.heap.size na (.slice (some ⟨b0,o0,none⟩) (zl x).length c0)∧ZL 47 wr (w.heap.size+1) nb (.slice a1 (zl y).length c1)∧ZL 47 wr (w.heap.size+1+1) false (.slice none 0 0)∧ZL 47 wr (w.heap.size+1+1+1) (!na==nb) (.slice (some ⟨(w.heap.size+1+1+1+1),0,none⟩) ((zl x).length+(zl y).length+1) ((zl x).length+(zl y).length+1))∧Below w.heap.size w wr) (fun _ _ i _=>(zl y).length-(intOf i).toNat)
    case atStart=>exact ⟨0,T,rfl,by omega,by simp [dval,val],HT.out,fun j=>bound_succ (HB.out j),fun _ _=>rfl,hown,zA,zB,zR,zO,hb⟩
    case round=>
     clear hown zA zB zR zO hb
     obtain ⟨l,U,rfl,hl,hv,hU,hbd,hsm,hown,zA,zB,zR,zO,hb⟩:=hrel
     have HU:=hid hU
     have HW:=hid hv
     have HC:=hid hbd
     have HS:=hid hsm
     clear hU hv hbd hsm
     obtain ⟨kB0,kB1,-,-,-⟩:=id zB
     obtain ⟨kO0,kO1,-,-,-⟩:=id zO
     by_cases hkb:l<(zl y).length
     ·obtain ⟨b1,o1,rfl,hc1⟩:=n1.2.2 (by omega)
      obtain ⟨dy,hdy⟩: ∃z,z=(zl y).getD l 0:=⟨_,rfl⟩
      have hdy1:dy<10000:=by rw [hdy];exact lb_dec _ (zl_dec _) l
      have hcell1:wr.cell? ⟨b1,o1+l,none⟩=some (.int .i64 (dy:Int)):=by
       have h1:=hc1 l (by omega)
       have h2:=hb.cell (p:=⟨b1,o1+l,none⟩) (World.block_lt_of_cell? w _ h1)
       rw [h2,h1,hdy];rfl
      clear hc1
      have HY:=hid hdy
      clear hdy
      obtain ⟨t,ht⟩: ∃t,t=U.getD (k+l) 0:=⟨_,rfl⟩
      have ht1:t≤k*99980001:=by rw [ht,HS.out _ (Nat.le_refl _)];exact HB.out _
      have hcell2:wr.cell? ⟨(w.heap.size+1+1+1+1),k+l,none⟩=some (.int .i64 (t:Int)):=by
       rw [hown.cell (k+l) (by rw [HU.out];omega),ht];rfl
      have hf:=hown.free (k+l)
      obtain ⟨z,hz⟩: ∃z,z=dx*dy:=⟨_,rfl⟩
      have hz1:z≤99980001:=mul_small hz hdx1 hdy1
      have hz2:(dx:Int)*(dy:Int)=(z:Int):=by rw [hz];exact (Int.natCast_mul _ _).symm
      have HTT:=hid ht
      have HZZ:=hid hz
      clear ht hz
      go_wp2_with fail
      go_roundw
      case rel=>
       have hs:=hown.set (k+l) (t+z)
       rw [show ((t+z:Nat):Int)=(t:Int)+(z:Int) by omega] at hs
       refine ⟨l+1,_,by go_num,by omega,?_,by rw [List.length_set];exact HU.out,?_,?_,hs,zA.far _ _ (by first|omega|(simp;done)|(simp;omega)),zB.far _ _ (by first|omega|(simp;done)|(simp;omega)),zR.far _ _ (by first|omega|(simp;done)|(simp;omega)),zO.far _ _ (by first|omega|(simp;done)|(simp;omega)),hb.trans ((hown.set_below _ _).mono (by first|omega|(simp;done)|(simp;omega)))⟩
       ·have hst:=dval_set U (k+l) (t+z) (by rw [HU.out];omega)
        rw [←HTT.out] at hst
        rw [show dval ((zl y).take (l+1))=dval ((zl y).take l)+10000^l*(zl y).getD l 0 from val_take_succ _ _ _ hkb,←HY.out]
        exact mul_inner HW.out hst HZZ.out
       ·intro j
        by_cases hj:k+l=j
        ·subst hj;rw [lset_eq _ _ _ (by rw [HU.out];omega)];omega
        ·rw [lset_ne _ _ _ _ hj];exact HC.out j
       ·intro j hj
        rw [lset_ne _ _ _ _ (by omega)];exact HS.out j (by omega)
      case measure=>simp [intOf];omega
     ·have hle:l=(zl y).length:=by omega
      have HLE:=hid hle
      clear hle
      go_wp2_with fail
      go_roundw
      case rel=>
       refine ⟨k+1,U,by go_num,by omega,?_,HU.out,fun j=>by have:=HC.out j;omega,hown,zA,zB,zR,zO,hb⟩
       have:=HW.out
       rw [HLE.out,List.take_of_length_le (Nat.le_refl _),dval_zl,HV.out] at this
       rw [this,show dval ((zl x).take (k+1))=dval ((zl x).take k)+10000^k*(zl x).getD k 0 from val_take_succ _ _ _ hka,←HX.out,Nat.add_mul,Nat.mul_assoc]
      case measure=>simp [intOf];omega
   ·have hke:k=(zl x).length:=by omega
    have hvm:dval T=x.natAbs*y.natAbs:=by
     have:=HV.out;rw [hke,List.take_of_length_le (Nat.le_refl _),dval_zl] at this;exact this
    have hvl:x.natAbs*y.natAbs<10000^((zl x).length+(zl y).length):=by
     have e1:=dval_lt (zl x) (zl_dec x)
     have e2:=dval_lt (zl y) (zl_dec y)
     rw [dval_zl] at e1 e2
     rw [Nat.pow_add]
     exact Nat.mul_lt_mul'' e1 e2
    have HVM:=hid hvm
    have HVL:=hid hvl
    have hsz:=zO.lt
    clear hvm hvl hke
    go_wp2_with fail
    obtain ⟨wo,rfl⟩: ∃wo:World,wo=wr:=⟨_,rfl⟩
    clear kA0 kA1 kB0 kB1 kO0 kO1
    go_loopw [10,59] (fun _ i wr=> ∃(p:Nat) (U:List Nat),i=.int .i64 p∧p≤(zl x).length+(zl y).length+1∧dval U=x.natAbs*y.natAbs∧U.length=(zl x).length+(zl y).length+1∧(∀j,j<p→U.getD j 0<10000)∧U.getD p 0≤214741814100000000∧(∀j,p<j→U.getD j 0≤107370907050000000)∧Own (w.heap.size+1+1+1) 3 .i64 wr (.slice (some ⟨(w.heap.size+1+1+1+1),0,none⟩) ((zl x).length+(zl y).length+1) ((zl x).length+(zl y).length+1)) U∧ZL 47 wr (w.heap.size+1+1) false (.slice none 0 0)∧ZL 47 wr (w.heap.size+1+1+1) (!na==nb) (.slice (some ⟨(w.heap.size+1+1+1+1),0,none⟩) ((zl x).length+(zl y).length+1) ((zl x).length+(zl y).length+1))∧Below w.heap.size w wr) (fun _ i _=>(zl x).length+(zl y).length+1-(intOf i).toNat)
    case atStart=>exact ⟨0,T,rfl,by omega,HVM.out,HT.out,fun j h=>by omega,by have:=HB.out 0;omega,fun j _=>by have:=HB.out j;omega,hown,zR,zO,hb⟩
    case round=>
     clear hown zA zB zR zO hb
     obtain ⟨p,U,rfl,hp,hv,hU,hlo,hat,hhi,hown,zR,zO,hb⟩:=hrel
     have HU:=hid hU
     have HW:=hid hv
     have HLO:=hid hlo
     have HHI:=hid hhi
     clear hU hv hlo hhi
     obtain ⟨kO0,kO1,-,-,-⟩:=id zO
     by_cases hpn:p<(zl x).length+(zl y).length+1
     ·obtain ⟨t,ht⟩: ∃t,t=U.getD p 0:=⟨_,rfl⟩
      rw [←ht] at hat
      have hcell:wr.cell? ⟨(w.heap.size+1+1+1+1),p,none⟩=some (.int .i64 (t:Int)):=by
       rw [hown.cell p (by rw [HU.out];omega),ht];rfl
      have hf:=hown.free p
      by_cases ht1:10000≤t
      ·have hpl:p+1<(zl x).length+(zl y).length+1:=by
        rcases Nat.lt_or_ge (p+1) ((zl x).length+(zl y).length+1) with h|h
        ·exact h
        ·exfalso
         have:=top_small U p _ (by rw [HU.out];omega) HW.out (by rw [show p=(zl x).length+(zl y).length by omega];exact HVL.out)
         omega
       obtain ⟨t2,ht2⟩: ∃t2,t2=U.getD (p+1) 0:=⟨_,rfl⟩
       have ht3:t2≤107370907050000000:=by rw [ht2];exact HHI.out _ (by omega)
       have hcell2:wr.cell? ⟨(w.heap.size+1+1+1+1),p+1,none⟩=some (.int .i64 (t2:Int)):=by
        rw [hown.cell (p+1) (by rw [HU.out];omega),ht2];rfl
       have hf2:=hown.free (p+1)
       have HTT:=hid ht
       have HT2:=hid ht2
       clear ht ht2
       go_wp2_with fail
       go_region
       go_wp2_with fail
       go_roundw
       case rel=>
        have hs1:=hown.set (p+1) (t2+t/10000)
        have hs:=hs1.set p (t%10000)
        rw [show ((t2+t/10000:Nat):Int)=(t2:Int)+(t:Int)/10000 by omega,show ((t%10000:Nat):Int)=(t:Int)%10000 by omega] at hs
        refine ⟨p+1,_,by go_num,by omega,?_,by rw [List.length_set,List.length_set];exact HU.out,?_,?_,?_,hs.drew1,((zR.far _ _ (by first|omega|(simp;done)|(simp;omega))).far _ _ (by first|omega|(simp;done)|(simp;omega))).drew,((zO.far _ _ (by first|omega|(simp;done)|(simp;omega))).far _ _ (by first|omega|(simp;done)|(simp;omega))).drew,((hb.trans ((hown.set_below _ _).mono (by first|omega|(simp;done)|(simp;omega)))).trans ((hs1.set_below _ _).mono (by first|omega|(simp;done)|(simp;omega)))).drew⟩
        ·have h1:=dval_set U (p+1) (t2+t/10000) (by rw [HU.out];omega)
         have h2:=dval_set (U.set (p+1) (t2+t/10000)) p (t%10000) (by rw [List.length_set,HU.out];omega)
         rw [←HT2.out] at h1
         rw [lset_ne _ _ _ _ (by omega),←HTT.out] at h2
         rw [mul_norm h1 h2 (by omega)];exact HW.out
        ·intro j hj
         by_cases hjp:p=j
         ·subst hjp;rw [lset_eq _ _ _ (by rw [List.length_set,HU.out];omega)];omega
         ·rw [lset_ne _ _ _ _ hjp,lset_ne _ _ _ _ (by omega)];exact HLO.out j (by omega)
        ·rw [lset_ne _ _ _ _ (by omega),lset_eq _ _ _ (by rw [HU.out];omega)];omega
        ·intro j hj
         rw [lset_ne _ _ _ _ (by omega),lset_ne _ _ _ _ (by omega)];exact HHI.out j (by omega)
       case measure=>simp [intOf];omega
      ·have HTT:=hid ht
       clear ht
       go_wp2_with fail
       go_roundw
       case rel=>
        refine ⟨p+1,U,by go_num,by omega,HW.out,HU.out,?_,by have:=HHI.out (p+1) (by omega);omega,fun j hj=>HHI.out j (by omega),hown,zR,zO,hb⟩
        intro j hj
        by_cases hjp:p=j
        ·subst hjp;rw [←HTT.out];omega
        ·exact HLO.out j (by omega)
       case measure=>simp [intOf];omega
     ·have lU:Dec U:=all_of_getD U ((zl x).length+(zl y).length+1) 10000 (by rw [HU.out];exact Nat.le_refl _) (fun j hj=>HLO.out j (by omega))
      have HF:=hid (show zof (!na==nb) (dval U)=x*y by rw [HW.out];exact hfin.out)
      go_wp2_with fail
      obtain ⟨ao1,cap1,hval,hN1⟩:=hown.nz
      rw [hval]
      have hfr: ∀p,ao1=some p→w.heap.size≤p.block:=fun p hp=>by
       have h2:=hown
       rw [hval] at h2
       exact Nat.le_trans (by omega) (h2.fresh p hp)
      refine (trim_at _ _ _ _ _ hN1 lU).mono ?_
      rw [HF.out]
      rintro e w2 ⟨cap2,rfl,hN2,hb2⟩
      have zR2:=zR.below hb2
      have k0:=zR2.1
      have k1:=zR2.2.1
      have f0:=zR2.2.2.1
      have f1:=zR2.2.2.2.1
      have hs2:=zR2.2.2.2.2
      go_wp2_with fail
      refine bodyPost_ret (by simp [results,Tryz.results77,go_sem,k0,k1];try rfl) rfl ?_
      exact ⟨_,_,rfl,(hN2.setCell hs2 (by decide) _ _).setCell (hs2.setCell _ _) (by decide) _ _,((below_trans hb hb2).setCell (by first|omega|(simp;done)|(simp;omega)) _).setCell (by first|omega|(simp;done)|(simp;omega)) _,hfr⟩
theorem zmul_any (a0 a1:Option Addr) (c0 c1:Nat) (x y:Int) (w:World) (h0:Nz 3 w a0 c0 (zl x)) (h1:Nz 3 w a1 c1 (zl y)) (hl0:(zl x).length≤1073741824) (hl1:(zl y).length≤1073741824):
 Calls Tryz.prog 77 #[.agg #[.bool (zneg x),.slice a0 (zl x).length c0],.agg #[.bool (zneg y),.slice a1 (zl y).length c1]] w fun e w'=>RetZ 3 w (x*y) e w':=
 (zmul_fresh a0 a1 c0 c1 x y w h0 h1 hl0 hl1).mono fun _ _ h=>h.any
end Go.Proofs.YtehhegbkahnhgaaGreatDoor
namespace Go.Ulp
open Go.RowKit
theorem zl_len_bits (x:Int) (k:Nat) (h:x.natAbs<2^k):(zl x).length≤k:=by
 unfold zl
 exact (digs_len_le 10000 (by omega) _ _).2 (Nat.lt_of_lt_of_le h (Nat.pow_le_pow_left (by omega) k))
theorem zl_len_pow (n:Nat):(zl ((2^n:Nat):Int)).length≤n+1:=
 zl_len_bits _ _ (by rw [Int.natAbs_natCast];exact Nat.pow_lt_pow_right (by omega) (by omega))
theorem zl_len_pw (n:Nat):(zl (pw n)).length≤n+1:=zl_len_pow n
end Go.Ulp
namespace Go.Proofs.YtehhegbkahnhgaaGreatDoor
open Go.RowKit Go.Ulp
set_option maxHeartbeats 1000000
set_option maxRecDepth 100000
theorem zpow_aux (f:Nat): ∀(n:Nat) (w:World),n≤f→n≤1000000000→Calls Tryz.prog 82 #[.int .i64 (n:Int)] w fun e w'=>RetZ 3 w ((2^n:Nat):Int) e w':=by
 induction f with
 |zero=>
  intro n w hn _
  obtain rfl:n=0:=by omega
  go_enter Tryz.func82,Tryz.ntmps82
  go_wp2_with fail
  have zR0:ZL 47 (w.alloc (.cells #[.bool false,.slice none 0 0] 47)) w.heap.size false (.slice none 0 0):=ZL.made rfl
  refine (zN_any 1 (by omega) _).mono ?_
  rintro e w1 ⟨ao,cap,rfl,hN,hb⟩
  have zR:=zR0.below hb
  have yb:Below w.heap.size w (w.alloc (.cells #[.bool false,.slice none 0 0] 47)):=below_alloc _ _
  have k0:=zR.1
  have k1:=zR.2.1
  have f0:=zR.2.2.1
  have f1:=zR.2.2.2.1
  have hs2:=zR.2.2.2.2
  go_wp2_with fail
  refine bodyPost_ret (by simp [results,Tryz.results82,go_sem,k0,k1];try rfl) rfl ?_
  exact ⟨_,_,rfl,(hN.setCell hs2 (by decide) _ _).setCell (hs2.setCell _ _) (by decide) _ _,((below_trans yb hb).setCell (by first|omega|(simp;done)|(simp;omega)) _).setCell (by first|omega|(simp;done)|(simp;omega)) _⟩
 |succ f ih=>
  intro n w hn hs
  by_cases h0:n=0
  ·subst h0;exact ih 0 w (by omega) (by omega)
  have IH:=hid ih
  clear ih
  have hz:((n:Int)==0)=false:=by simp;omega
  by_cases h60:n<60
  ·have hp:2^n≤2^59:=Nat.pow_le_pow_right (by omega) (by omega)
   have h59:(2:Nat)^59=576460752303423488:=by decide
   have hc:((2^n:Nat):Int)=(2:Int)^n:=by simp
   have hw1:(2:Int)^n≤576460752303423488:=by rw [←hc];omega
   have hw0:0≤(2:Int)^n:=by rw [←hc];exact Int.natCast_nonneg _
   have HC:=hid hc
   have HP:=hid hp
   clear hc hp h59
   go_enter Tryz.func82,Tryz.ntmps82
   go_wp2_with fail
   rw [←HC.out]
   have zR0:ZL 47 (w.alloc (.cells #[.bool false,.slice none 0 0] 47)) w.heap.size false (.slice none 0 0):=ZL.made rfl
   refine (zN_any (2^n) (by have:=HP.out;have h59:(2:Nat)^59=576460752303423488:=by decide
                            omega) _).mono ?_
   rintro e w1 ⟨ao,cap,rfl,hN,hb⟩
   have zR:=zR0.below hb
   have yb:Below w.heap.size w (w.alloc (.cells #[.bool false,.slice none 0 0] 47)):=below_alloc _ _
   have k0:=zR.1
   have k1:=zR.2.1
   have f0:=zR.2.2.1
   have f1:=zR.2.2.2.1
   have hs2:=zR.2.2.2.2
   go_wp2_with fail
   refine bodyPost_ret (by simp [results,Tryz.results82,go_sem,k0,k1];try rfl) rfl ?_
   exact ⟨_,_,rfl,(hN.setCell hs2 (by decide) _ _).setCell (hs2.setCell _ _) (by decide) _ _,((below_trans yb hb).setCell (by first|omega|(simp;done)|(simp;omega)) _).setCell (by first|omega|(simp;done)|(simp;omega)) _⟩
  ·have h1: ¬(n:Int)<60:=by omega
   obtain ⟨q,hq⟩: ∃q,q=n/2:=⟨_,rfl⟩
   obtain ⟨r,hr⟩: ∃r,r=n-q:=⟨_,rfl⟩
   have e1:(n:Int)/2=(q:Int):=by omega
   have e2:(n:Int)-(q:Int)=(r:Int):=by omega
   have hq1:q≤f:=by omega
   have hr1:r≤f:=by omega
   have hq2:q≤1000000000:=by omega
   have hr2:r≤1000000000:=by omega
   have HS:=hid (show ((2^q:Nat):Int)*((2^r:Nat):Int)=((2^n:Nat):Int) by
    rw [←Int.natCast_mul,←Nat.pow_add];congr 2;omega)
   clear hq hr
   go_enter Tryz.func82,Tryz.ntmps82
   go_wp2_with fail
   have zR0:ZL 47 (w.alloc (.cells #[.bool false,.slice none 0 0] 47)) w.heap.size false (.slice none 0 0):=ZL.made rfl
   have yb0:Below w.heap.size w (w.alloc (.cells #[.bool false,.slice none 0 0] 47)):=below_alloc _ _
   refine (IH.out q _ hq1 hq2).mono ?_
   rintro e w1 ⟨ao,cap,rfl,hN,hb⟩
   go_wp2_with fail
   refine (IH.out r _ hr1 hr2).mono ?_
   rintro e w2 ⟨ao2,cap2,rfl,hN2,hb2⟩
   go_wp2_with fail
   refine (zmul_any _ _ _ _ _ _ _ (hN.below hb2) hN2 (Nat.le_trans (zl_len_pow q) (by omega)) (Nat.le_trans (zl_len_pow r) (by omega))).mono ?_
   rw [HS.out]
   rintro e w3 ⟨ao3,cap3,rfl,hN3,hb3⟩
   have zR:=((zR0.below hb).below hb2).below hb3
   have yb:=below_trans (below_trans yb0 hb) hb2
   have k0:=zR.1
   have k1:=zR.2.1
   have f0:=zR.2.2.1
   have f1:=zR.2.2.2.1
   have hs2:=zR.2.2.2.2
   go_wp2_with fail
   refine bodyPost_ret (by simp [results,Tryz.results82,go_sem,k0,k1];try rfl) rfl ?_
   exact ⟨_,_,rfl,(hN3.setCell hs2 (by decide) _ _).setCell (hs2.setCell _ _) (by decide) _ _,((below_trans yb hb3).setCell (by first|omega|(simp;done)|(simp;omega)) _).setCell (by first|omega|(simp;done)|(simp;omega)) _⟩
theorem zpow_any (n:Nat) (w:World) (hn:n≤1000000000):Calls Tryz.prog 82 #[.int .i64 (n:Int)] w fun e w'=>RetZ 3 w (pw n) e w':=zpow_aux n n w (Nat.le_refl _) hn
end Go.Proofs.YtehhegbkahnhgaaGreatDoor
namespace Go.Ulp
open Go.RowKit
theorem Ns.drop {k:IntKind} {w:World} {b off cap:Nat} {L:List Nat} (h:Ns k w (some ⟨b,off,none⟩) cap L) (n:Nat) (hn:n≤L.length):Ns k w (some ⟨b,off+n,none⟩) (cap-n) (L.drop n):=by
 obtain ⟨h1,h2,h3⟩:=h
 refine ⟨by rw [List.length_drop];omega,by omega,fun hp=>?_⟩
 rw [List.length_drop] at hp
 obtain ⟨b',off',e,hc⟩:=h3 (by omega)
 obtain ⟨rfl,rfl⟩:b=b'∧off=off':=by simpa using e
 refine ⟨b,off+n,rfl,fun i hi=>?_⟩
 rw [List.length_drop] at hi
 have:=hc (n+i) (by omega)
 rw [Nat.add_assoc,this]
 unfold lb
 rw [getD_in L (n+i) (by omega),getD_in (L.drop n) i (by rw [List.length_drop];omega),List.getElem_drop]
theorem Lim.take {L:List Nat} (h:Lim L) (k:Nat):Lim (L.take k):=AllLt.take h k
theorem Lim.drop {L:List Nat} (h:Lim L) (k:Nat):Lim (L.drop k):=AllLt.drop h k
end Go.Ulp
namespace Go.Proofs.YtehhegbkahnhgaaGreatDoor
open Go.RowKit Go.Ulp
set_option maxHeartbeats 1000000
set_option maxRecDepth 100000
end Go.Proofs.YtehhegbkahnhgaaGreatDoor
namespace Go.Ulp
open Go.RowKit
def RetQ (t:TypeId) (w:World) (x:Int) (n:Int) (e:Ending) (w':World):Prop:=
 ∃ao cap,e=.returned (.agg #[.bool (zneg x),.slice ao (zl x).length cap,.int .i64 n])∧Nz t w' ao cap (zl x)∧Below w.heap.size w w'
def QL (t:TypeId) (w:World) (g:Nat) (n:Bool) (v:Value) (k:Int):Prop:=
 ZL t w g n v∧w.cell? ⟨g,2,none⟩=some (.int .i64 k)∧w.frozen? ⟨g,2,none⟩=false
theorem QL.lt {t:TypeId} {w:World} {g:Nat} {n:Bool} {v:Value} {k:Int} (h:QL t w g n v k):g<w.heap.size:=h.1.lt
theorem QL.belowB {t:TypeId} {B:Nat} {w w':World} {g:Nat} {n:Bool} {v:Value} {k:Int} (h:QL t w g n v k) (hb:Below B w w') (hB:g<B):QL t w' g n v k:=
 ⟨h.1.belowB hb hB,(hb.cell (p:=⟨g,2,none⟩) hB).trans h.2.1,(hb.frozen (p:=⟨g,2,none⟩) hB).trans h.2.2⟩
theorem QL.below {t:TypeId} {w w':World} {g:Nat} {n:Bool} {v:Value} {k:Int} (h:QL t w g n v k) (hb:Below w.heap.size w w'):QL t w' g n v k:=h.belowB hb h.lt
theorem QL.alloc {t:TypeId} {w:World} {g:Nat} {n:Bool} {v:Value} {k:Int} (h:QL t w g n v k) (o:Obj):QL t (w.alloc o) g n v k:=h.below (below_alloc _ _)
theorem QL.drew {t:TypeId} {w:World} {g:Nat} {n:Bool} {v:Value} {k:Int} (h:QL t w g n v k):QL t w.drew g n v k:=h
theorem QL.drewN {t:TypeId} {w:World} {g:Nat} {n:Bool} {v:Value} {k:Int} (h:QL t w g n v k) (j:Nat):QL t (w.drewN j) g n v k:=h
theorem QL.made {t:TypeId} {w:World} {g:Nat} {n:Bool} {v:Value} {k:Int} (hg:g=w.heap.size):QL t (w.alloc (.cells #[.bool n,v,.int .i64 k] t)) g n v k:=by
 subst hg
 refine ⟨⟨?_,?_,?_,?_,ElemIs.made _ _ _⟩,?_,?_⟩
 ·rw [World.cell?_alloc_at (hn:=rfl)];rfl
 ·rw [World.cell?_alloc_at (hn:=rfl)];rfl
 ·unfold World.frozen?;rw [heap_alloc_new];simp
 ·unfold World.frozen?;rw [heap_alloc_new];simp
 ·rw [World.cell?_alloc_at (hn:=rfl)];rfl
 ·unfold World.frozen?;rw [heap_alloc_new];simp
end Go.Ulp
namespace Go.Proofs.YtehhegbkahnhgaaGreatDoor
open Go.RowKit Go.Ulp
set_option maxHeartbeats 1000000
set_option maxRecDepth 100000
theorem qmake_neg (a0:Option Addr) (c0:Nat) (x:Int) (n:Int) (w:World) (h0:Nz 3 w a0 c0 (zl x)) (hn:n<0) (hn2: -10000000≤n):
 Calls Tryz.prog 37 #[.agg #[.bool (zneg x),.slice a0 (zl x).length c0],.int .i64 n] w fun e w'=>RetQ 3 w x (-n) e w':=by
 go_enter Tryz.func37,Tryz.ntmps37
 go_wp2_with fail
 refine bodyPost_ret (by simp [results,Tryz.results37,go_sem];try rfl) rfl ?_
 exact ⟨a0,c0,rfl,h0.below (by (repeat' first|(with_reducible first|apply bR|assumption|apply bN|apply bD|apply bL|apply bS)|go_size)),by (repeat' first|(with_reducible first|apply bR|assumption|apply bN|apply bD|apply bL|apply bS)|go_size)⟩
theorem qmake_pos (a0:Option Addr) (c0:Nat) (x:Int) (n:Nat) (w:World) (h0:Nz 3 w a0 c0 (zl x)) (hl0:(zl x).length≤1073741824) (hn2:n≤100000000):
 Calls Tryz.prog 37 #[.agg #[.bool (zneg x),.slice a0 (zl x).length c0],.int .i64 (n:Int)] w fun e w'=>RetQ 3 w (x*pw n) 0 e w':=by
 have hz:=hid h0
 go_enter Tryz.func37,Tryz.ntmps37
 go_wp2_with fail
 have zR0:QL 49 ((w.alloc (.cells #[.bool (zneg x),.slice a0 (zl x).length c0] 47)).alloc (.cells #[.bool false,.slice none 0 0,.int .i64 0] 49)) (w.heap.size+1) false (.slice none 0 0) 0:=QL.made (by first|omega|(simp;done)|(simp;omega))
 have zA0:ZL 47 ((w.alloc (.cells #[.bool (zneg x),.slice a0 (zl x).length c0] 47)).alloc (.cells #[.bool false,.slice none 0 0,.int .i64 0] 49)) w.heap.size (zneg x) (.slice a0 (zl x).length c0):=(ZL.made rfl).alloc _
 have zA:=zA0.drew
 have yb0:Below w.heap.size w ((w.alloc (.cells #[.bool (zneg x),.slice a0 (zl x).length c0] 47)).alloc (.cells #[.bool false,.slice none 0 0,.int .i64 0] 49)):=by (repeat' first|(with_reducible first|apply bR|assumption|apply bN|apply bD|apply bL|apply bS)|go_size)
 have zR:=zR0.drew
 have yb:=yb0.drew
 clear zR0 yb0 zA0
 go_region_with (first|(go_at_call 82;refine (zpow_any n _ (by omega)).mono ?_;rintro e wn ⟨aon,capn,rfl,hNn,hbn⟩;have h0n:=Nz.below (w':=wn) h0 (by (repeat' first|(with_reducible first|assumption|apply bR|apply bA|apply bN|apply bD|apply bL|apply bS)|refine bT ?_ (by assumption)|go_size));have zAn:=ZL.below (w':=wn) zA (by (repeat' first|(with_reducible first|assumption|apply bR|apply bA|apply bN|apply bD|apply bL|apply bS)|refine bT ?_ (by assumption)|go_size));have kA0:=zAn.1;have kA1:=zAn.2.1)|(go_at_call 77;refine (zmul_any _ _ _ _ _ _ _ (by assumption) (by assumption) hl0 (Nat.le_trans (zl_len_pw _) (by omega))).mono ?_;rintro e wn ⟨aon,capn,rfl,hNn,hbn⟩;have zRn:=QL.below (w':=wn) zR (by (repeat' first|(with_reducible first|assumption|apply bR|apply bA|apply bN|apply bD|apply bL|apply bS)|refine bT ?_ (by assumption)|go_size));have ybn:Below w.heap.size w wn:=(by (repeat' first|(with_reducible first|assumption|apply bR|apply bA|apply bN|apply bD|apply bL|apply bS)|refine bT ?_ (by assumption)|go_size));have k0:=zRn.1.1;have k1:=zRn.1.2.1;have f0:=zRn.1.2.2.1;have f1:=zRn.1.2.2.2.1;have k2:=zRn.2.1;have f2:=zRn.2.2))
 all_goals
  have hs2:=zRn.1.2.2.2.2
  go_wp2_with fail
  refine bodyPost_ret (by simp [results,Tryz.results37,go_sem,k0,k1,k2];try rfl) rfl ?_
  exact ⟨_,_,rfl,((hNn.setCell hs2 (by decide) _ _).setCell (hs2.setCell _ _) (by decide) _ _).setCell ((hs2.setCell _ _).setCell _ _) (by decide) _ _,((ybn.setCell (by first|omega|(simp;done)|(simp;omega)) _).setCell (by first|omega|(simp;done)|(simp;omega)) _).setCell (by first|omega|(simp;done)|(simp;omega)) _⟩
end Go.Proofs.YtehhegbkahnhgaaGreatDoor
