/- ExpoExps: what the proof leans on, part 7 (Nat7 Q5). -/
import Derived.Test.YtehhegbkahnhgaaGreatDoorKExpoExps2
import Derived.Test.YtehhegbkahnhgaaGreatDoorKExpoExps3
import Derived.Test.YtehhegbkahnhgaaGreatDoorKExpoExps6
set_option linter.unusedVariables false
set_option linter.unusedSimpArgs false
namespace Go.Ulp
theorem val_set' (L:List Nat) (i d:Nat) (h:i<L.length):lval (L.set i d)+4294967296^i*L.getD i 0=lval L+4294967296^i*d:=val_set _ L i d h
theorem pow_u32 (a b:Nat):4294967296^(a+b)=4294967296^a*4294967296^b:=Nat.pow_add _ _ _
theorem times_step {v v' v0 c x s k l t y:Nat} (h:v+4294967296^(k+l)*c=v0+4294967296^k*(x*s))
 (hs:v'+4294967296^(k+l)*t=v+4294967296^(k+l)*((c+(x*y+t))%4294967296)):
 v'+4294967296^(k+(l+1))*((c+(x*y+t))/4294967296)=v0+4294967296^k*(x*(s+4294967296^l*y)):=by
 have e1:=Nat.mod_add_div (c+(x*y+t)) 4294967296
 have e2:=congrArg (fun z=>4294967296^(k+l)*z) e1
 simp only [Nat.mul_add] at e2
 have e3:4294967296^(k+(l+1))*((c+(x*y+t))/4294967296)=4294967296^(k+l)*(4294967296*((c+(x*y+t))/4294967296)):=by
  rw [show k+(l+1)=(k+l)+1 by omega,Nat.pow_succ,Nat.mul_assoc]
 have e4:4294967296^k*(x*(s+4294967296^l*y))=4294967296^k*(x*s)+4294967296^(k+l)*(x*y):=by
  rw [Nat.mul_add,Nat.mul_add,pow_u32,Nat.mul_assoc,←Nat.mul_assoc x,Nat.mul_comm x (4294967296^l),Nat.mul_assoc (4294967296^l)]
 rw [e3,e4];omega
theorem times_row {v v' v0 c x n k l:Nat} (h:v+4294967296^(k+l)*c=v0+4294967296^k*(x*n)) (hs:v'+4294967296^(k+l)*0=v+4294967296^(k+l)*c)
 (m:Nat) (hv:v0=m*n):v'=(m+4294967296^k*x)*n:=by
 rw [Nat.add_mul,Nat.mul_assoc];omega
end Go.Ulp
namespace Go.Proofs.YtehhegbkahnhgaaGreatDoor
open Go.RowKit Go.Ulp
set_option maxHeartbeats 800000
set_option maxRecDepth 100000
theorem times_any (a0 a1:Option Addr) (c0 c1:Nat) (m n:Nat) (w:World) (h0:Ns .u32 w a0 c0 (limbs m)) (h1:Ns .u32 w a1 c1 (limbs n)) (hm:(limbs m).length≤4294967296) (hn:(limbs n).length≤4294967296):
 Calls Tryz.prog 103 #[.slice a0 (limbs m).length c0,.slice a1 (limbs n).length c1] w fun e w'=>RetN w (m*n) e w':=by
 have lL:=limbs_lim m
 have lM:=limbs_lim n
 obtain ⟨hL1,hL2,hL3⟩:=h0
 obtain ⟨hM1,hM2,hM3⟩:=h1
 unfold maxLen at hL2 hM2
 go_enter Tryz.func103,Tryz.ntmps103
 go_wp2_with (at_make;refine wpList_zeros ei_u32 (by omega) rfl _ _ rfl ((limbs m).length+(limbs n).length) _ _ _ _ rfl rfl (by omega) (by omega) (by omega) ?_;intro w1 hown hb0)
 obtain ⟨g,hg⟩: ∃g,g=w.heap.size:=⟨_,rfl⟩
 rw [←hg] at hown ⊢
 have HG:=hid hg
 clear hg
 go_loopw [6,7,8,19] (fun _ _ _ i wr=> ∃(k:Nat) (T:List Nat),k≤(limbs m).length∧i=.int .i64 k∧Lim T∧lval T=lval ((limbs m).take k)*n∧T.length=(limbs m).length+(limbs n).length∧(∀j,k+(limbs n).length≤j→T.getD j 0=0)∧Own g 106 .u32 wr (.slice (some ⟨g,0,none⟩) ((limbs m).length+(limbs n).length) ((limbs m).length+(limbs n).length)) T∧Below w.heap.size w wr) (fun _ _ _ i _=>(limbs m).length-(intOf i).toNat)
 case atStart=>
  refine ⟨0,_,by omega,rfl,AllLt.replicate (by omega),?_,by simp,fun j _=>getD_replicate _ _,hown,hb0⟩
  unfold lval;rw [val_replicate];simp [val]
 case round=>
  obtain ⟨k,T,hk,rfl,lT,hv,hT,hz,hown,hb⟩:=hrel
  have HT:=hid hT
  have HV:=hid hv
  have HZ:=hid hz
  clear hT hv hz
  by_cases hlt:k<(limbs m).length
  ·obtain ⟨b0,o0,rfl,hc0⟩:=hL3 (by omega)
   obtain ⟨x,hx⟩: ∃x,x=(limbs m).getD k 0:=⟨_,rfl⟩
   have hx1:x<4294967296:=by rw [hx];exact lL.getD (by omega) k
   have hcell:wr.cell? ⟨b0,o0+k,none⟩=some (.int .u32 (x:Int)):=by
    have h1:=hc0 k hlt
    have h2:=hb.cell (p:=⟨b0,o0+k,none⟩) (World.block_lt_of_cell? w _ h1)
    rw [h2,h1,hx];rfl
   clear hc0 hL3
   have HX:=hid hx
   clear hx
   go_wp2_with fail
   clear hcell
   obtain ⟨wo,rfl⟩: ∃wo:World,wo=wr:=⟨_,rfl⟩
   go_loopw [8,9,10,26] (fun c _ _ i wr=> ∃(l cc:Nat) (U:List Nat),l≤(limbs n).length∧i=.int .i64 l∧c=.int .u64 cc∧cc<4294967296∧Lim U∧lval U+4294967296^(k+l)*cc=lval T+4294967296^k*(x*lval ((limbs n).take l))∧U.length=(limbs m).length+(limbs n).length∧(∀j,k+l≤j→U.getD j 0=T.getD j 0)∧Own g 106 .u32 wr (.slice (some ⟨g,0,none⟩) ((limbs m).length+(limbs n).length) ((limbs m).length+(limbs n).length)) U∧Below w.heap.size w wr) (fun _ _ _ i _=>(limbs n).length-(intOf i).toNat)
   case atStart=>
    exact ⟨0,0,T,by omega,rfl,rfl,by omega,lT,by simp [lval,val],HT.out,fun _ _=>rfl,hown,hb⟩
   case round=>
    clear hown hb
    obtain ⟨l,cc,U,hl,rfl,rfl,hcc,lU,hv,hU,hz,hown,hb⟩:=hrel
    have HU:=hid hU
    have HW:=hid hv
    have HY:=hid hz
    clear hU hv hz
    have hfree:=hown.free
    by_cases hlt2:l<(limbs n).length
    ·obtain ⟨b1,o1,rfl,hc1⟩:=hM3 (by omega)
     obtain ⟨y,hy⟩: ∃y,y=(limbs n).getD l 0:=⟨_,rfl⟩
     have hy1:y<4294967296:=by rw [hy];exact lM.getD (by omega) l
     have hcell1:wr.cell? ⟨b1,o1+l,none⟩=some (.int .u32 (y:Int)):=by
      have h1:=hc1 l hlt2
      have h2:=hb.cell (p:=⟨b1,o1+l,none⟩) (World.block_lt_of_cell? w _ h1)
      rw [h2,h1,hy];rfl
     obtain ⟨t,ht⟩: ∃t,t=U.getD (k+l) 0:=⟨_,rfl⟩
     have ht1:t<4294967296:=by rw [ht];exact lU.getD (by omega) _
     have hcell2:wr.cell? ⟨g,k+l,none⟩=some (.int .u32 (t:Int)):=by
      rw [hown.cell (k+l) (by rw [HU.out];omega),ht];rfl
     have hf:=hfree (k+l)
     obtain ⟨z,hz⟩: ∃z,z=x*y:=⟨_,rfl⟩
     have hz1:z≤18446744065119617025:=by
      rw [hz];exact Nat.le_trans (Nat.mul_le_mul (show x≤4294967295 by omega) (show y≤4294967295 by omega)) (by decide)
     have hz2:(x:Int)*(y:Int)=(z:Int):=by rw [hz];exact (Int.natCast_mul _ _).symm
     clear hc1 hM3 hfree
     have HYY:=hid hy
     have HTT:=hid ht
     have HZZ:=hid hz
     clear hy ht hz
     go_wp2_with fail
     go_roundw
     case rel=>
      have hs:=hown.set (k+l) ((cc+(z+t))%4294967296)
      rw [show (((cc+(z+t))%4294967296:Nat):Int)=((cc:Int)+((z:Int)+(t:Int)))%4294967296 by omega] at hs
      refine ⟨l+1,(cc+(z+t))/4294967296,_,by omega,by go_num,by go_num,by omega,lU.set (k+l) ((cc+(z+t))%4294967296) (Nat.mod_lt _ (by omega)),?_,by rw [List.length_set];exact HU.out,?_,hs,?_⟩
      ·have hst:=val_set' U (k+l) ((cc+(z+t))%4294967296) (by rw [HU.out];omega)
       rw [←HTT.out,HZZ.out] at hst
       have:=times_step HW.out hst
       rw [show lval ((limbs n).take (l+1))=lval ((limbs n).take l)+4294967296^l*(limbs n).getD l 0 from val_take_succ _ _ _ hlt2,←HYY.out,HZZ.out];exact this
      ·intro j hj
       rw [lset_ne _ _ _ _ (by omega)];exact HY.out j (by omega)
      ·exact hb.trans ((hown.set_below _ _).mono (by rw [HG.out];exact Nat.le_refl _))
     case measure=>simp [intOf];omega
    ·have hle:l=(limbs n).length:=by omega
     have hcell2:wr.cell? ⟨g,k+(limbs n).length,none⟩=some (.int .u32 0):=by
      rw [hown.cell (k+(limbs n).length) (by rw [HU.out];omega)]
      unfold lb;rw [HY.out _ (by omega),HZ.out _ (by omega)];rfl
     have hf:=hfree (k+(limbs n).length)
     clear hfree
     have HLE:=hid hle
     clear hle
     go_wp2_with fail
     go_roundw
     case rel=>
      have hs:=hown.set (k+(limbs n).length) cc
      have e0:U.getD (k+(limbs n).length) 0=0:=by rw [HY.out _ (by omega),HZ.out _ (by omega)]
      refine ⟨k+1,_,by omega,by go_num,lU.set (k+(limbs n).length) cc hcc,?_,by rw [List.length_set];exact HU.out,?_,hs,?_⟩
      ·have hst:=val_set' U (k+(limbs n).length) cc (by rw [HU.out];omega)
       rw [e0] at hst
       have hw:=HW.out
       rw [HLE.out,List.take_of_length_le (Nat.le_refl _),lval_limbs] at hw
       rw [show lval ((limbs m).take (k+1))=lval ((limbs m).take k)+4294967296^k*(limbs m).getD k 0 from val_take_succ _ _ _ hlt,←HX.out]
       exact times_row hw hst _ HV.out
      ·intro j hj
       rw [lset_ne _ _ _ _ (by omega),HY.out _ (by omega),HZ.out _ (by omega)]
      ·exact hb.trans ((hown.set_below _ _).mono (by rw [HG.out];exact Nat.le_refl _))
     case measure=>simp [intOf];omega
  ·have hfin:lval T=m*n:=by
    rw [HV.out,List.take_of_length_le (by omega),lval_limbs]
   have HF:=hid hfin
   clear hfin
   go_wp2_with fail
   obtain ⟨ao,cap,hval,hN⟩:=hown.ns
   rw [hval]
   refine (norm_any _ _ _ _ hN lT).mono ?_
   rintro e w' ⟨rfl,rfl⟩
   have hN':=hN.norm lT
   rw [HF.out] at hN' ⊢
   go_wp2_with fail
   go_ret
   exact ⟨_,rfl,hN',hb⟩
end Go.Proofs.YtehhegbkahnhgaaGreatDoor
namespace Go.Ulp
theorem small_step {T L b r x q r':Nat} (h:T*b+r=L) (hx:r*4294967296+x=q*b+r'):(q+4294967296*T)*b+r'=x+4294967296*L:=by
 rw [←h,Nat.add_mul,Nat.mul_add]
 have:4294967296*T*b=4294967296*(T*b):=by rw [Nat.mul_assoc]
 omega
end Go.Ulp
namespace Go.Proofs.YtehhegbkahnhgaaGreatDoor
open Go.RowKit Go.Ulp
set_option maxHeartbeats 800000
set_option maxRecDepth 100000
theorem small_any (a0:Option Addr) (c0:Nat) (m b:Nat) (w:World) (h0:Ns .u32 w a0 c0 (limbs m)) (hm:(limbs m).length≤4294967296) (hb0:0<b) (hb1:b<4294967296):
 Calls Tryz.prog 122 #[.slice a0 (limbs m).length c0,.int .u32 (b:Int)] w fun e w'=>RetN2 w (m/b) (.int .u32 ((m%b:Nat):Int)) e w':=by
 have lL:=limbs_lim m
 obtain ⟨hL1,hL2,hL3⟩:=h0
 unfold maxLen at hL2
 go_enter Tryz.func122,Tryz.ntmps122
 go_wp2_with (at_make;refine wpList_zeros ei_u32 (by omega) rfl _ _ rfl (limbs m).length _ _ _ _ rfl rfl (by omega) (by omega) (by omega) ?_;intro w1 hown hbl)
 obtain ⟨g,hg⟩: ∃g,g=w.heap.size:=⟨_,rfl⟩
 rw [←hg] at hown ⊢
 have HG:=hid hg
 clear hg
 go_loopw [7,8] (fun r i wr=> ∃(i0:Int) (rr:Nat) (T:List Nat),i=.int .i64 i0∧ -1≤i0∧i0<(limbs m).length∧r=.int .u64 rr∧rr<b∧Lim T∧T.length=(limbs m).length∧lval (T.drop (i0+1).toNat)*b+rr=lval ((limbs m).drop (i0+1).toNat)∧Own g 106 .u32 wr (.slice (some ⟨g,0,none⟩) (limbs m).length (limbs m).length) T∧Below w.heap.size w wr) (fun _ i _=>(intOf i+1).toNat)
 case atStart=>
  refine ⟨_,0,_,rfl,by omega,by omega,rfl,hb0,AllLt.replicate (by omega),by simp,?_,hown,hbl⟩
  rw [List.drop_eq_nil_iff.2 (by simp),List.drop_eq_nil_iff.2 (by omega)]
  simp [lval,val]
 case round=>
  clear hown hbl
  obtain ⟨i0,rr,T,rfl,hi1,hi2,rfl,hrb,lT,hT,hv,hown,hbl⟩:=hrel
  have HT:=hid hT
  have HV:=hid hv
  clear hT hv
  by_cases hi:i0<0
  ·have hz:(i0+1).toNat=0:=by omega
   have hv:=HV.out
   rw [hz,List.drop_zero,List.drop_zero,lval_limbs] at hv
   have hfin:lval T=m/b:=by rw [←hv,Nat.mul_comm,Nat.mul_add_div hb0,Nat.div_eq_of_lt hrb];rfl
   have hrem:rr=m%b:=by rw [←hv,Nat.mul_comm,Nat.mul_add_mod,Nat.mod_eq_of_lt hrb]
   have HF:=hid hfin
   have HR:=hid hrem
   clear hfin hrem hv hz
   obtain ⟨ao,cap,hval,hN⟩:=hown.ns
   have HVV:=hid hval
   clear hval
   go_wp2_with fail
   rw [HVV.out]
   refine (norm_any _ _ _ _ hN lT).mono ?_
   rintro e w' ⟨rfl,rfl⟩
   have hN':=hN.norm lT
   rw [HF.out] at hN' ⊢
   go_wp2_with fail
   go_ret2
   refine ⟨_,?_,hN',hbl⟩
   rw [←HR.out];rfl
  ·obtain ⟨j,rfl⟩:=Int.eq_ofNat_of_zero_le (show 0≤i0 by omega)
   obtain ⟨b0,o0,rfl,hc0⟩:=hL3 (by omega)
   obtain ⟨x,hx⟩: ∃x,x=(limbs m).getD j 0:=⟨_,rfl⟩
   have hx1:x<4294967296:=by rw [hx];exact lL.getD (by omega) j
   have hcell:wr.cell? ⟨b0,o0+j,none⟩=some (.int .u32 (x:Int)):=by
    have h1:=hc0 j (by omega)
    have h2:=hbl.cell (p:=⟨b0,o0+j,none⟩) (World.block_lt_of_cell? w _ h1)
    rw [h2,h1,hx];rfl
   clear hc0 hL3
   have HX:=hid hx
   clear hx
   have hcell2:=hown.cell j (by rw [HT.out];omega)
   have hf:=hown.free j
   have E:=or_join32 (rr:Int) (x:Int) (by omega) (by omega) (by omega) (by omega)
   go_wp2_with fail
   have hlt:rr*4294967296+x<b*4294967296:=by
    have:=Nat.mul_le_mul_right 4294967296 (show rr+1≤b by omega)
    rw [Nat.add_mul] at this;omega
   have hq:(rr*4294967296+x)/b<4294967296:=Nat.div_lt_of_lt_mul hlt
   have hs:=hown.set j ((rr*4294967296+x)/b)
   have eq1:((rr:Int)*4294967296+(x:Int))/(b:Int)%4294967296=(((rr*4294967296+x)/b:Nat):Int):=by
    have:((rr:Int)*4294967296+(x:Int))/(b:Int)=(((rr*4294967296+x)/b:Nat):Int):=by simp
    rw [this];exact Int.emod_eq_of_lt (Int.natCast_nonneg _) (Int.ofNat_lt.2 hq)
   have eq2:((rr:Int)*4294967296+(x:Int))%(b:Int)=(((rr*4294967296+x)%b:Nat):Int):=by simp
   rw [eq1,eq2]
   refine ⟨⟨(j:Int)-1,(rr*4294967296+x)%b,_,rfl,by omega,by omega,rfl,Nat.mod_lt _ hb0,lT.set j _ hq,by rw [List.length_set];exact HT.out,?_,hs,?_⟩,by simp [intOf]⟩
   ·rw [show ((j:Int)-1+1).toNat=j by omega]
    have hv:=HV.out
    rw [show ((j:Int)+1).toNat=j+1 by omega] at hv
    have e1:lval ((T.set j ((rr*4294967296+x)/b)).drop j)=(rr*4294967296+x)/b+4294967296*lval (T.drop (j+1)):=val_drop_set _ _ _ _ (by rw [HT.out];omega)
    have e2:lval ((limbs m).drop j)=(limbs m).getD j 0+4294967296*lval ((limbs m).drop (j+1)):=val_drop _ _ _ (by omega)
    rw [e1,e2,←HX.out]
    exact small_step hv (by have:=Nat.div_add_mod (rr*4294967296+x) b;rw [Nat.mul_comm b] at this;omega)
   ·exact hbl.trans ((hown.set_below _ _).mono (by rw [HG.out];exact Nat.le_refl _))
end Go.Proofs.YtehhegbkahnhgaaGreatDoor
namespace Go.Ulp
open Go.RowKit
theorem left_step {v c V x q k P y:Nat} (h:v+4294967296^(q+k)*c=V*P*4294967296^q) (hy:y=c+x*P):
 v+4294967296^(q+k)*(y%4294967296)+4294967296^(q+(k+1))*(y/4294967296)=(V+4294967296^k*x)*P*4294967296^q:=by
 have e1:=Nat.mod_add_div y 4294967296
 have e2:=congrArg (fun z=>4294967296^(q+k)*z) e1
 simp only [Nat.mul_add] at e2
 have e3:4294967296^(q+(k+1))*(y/4294967296)=4294967296^(q+k)*(4294967296*(y/4294967296)):=by
  rw [show q+(k+1)=(q+k)+1 by omega,Nat.pow_succ,Nat.mul_assoc]
 have e4:(V+4294967296^k*x)*P*4294967296^q=V*P*4294967296^q+4294967296^(q+k)*(x*P):=by
  rw [Nat.add_mul,Nat.add_mul,Nat.pow_add,Nat.mul_assoc (4294967296^k),Nat.mul_comm (4294967296^k),Nat.mul_assoc (x*P),Nat.mul_comm (x*P),Nat.mul_comm (4294967296^q)]
 rw [e3,e4];rw [hy,Nat.mul_add] at e2;rw [hy];omega
theorem or_shl (c x s:Nat) (hs:s<32) (hc:c<2^s) (hx:x<4294967296):bits .or .u64 (c:Int) (IntKind.u64.wrap ((x:Int)*2^s))=((c+x*2^s:Nat):Int)∧c+x*2^s<4294967296*2^s∧c+x*2^s<9223372036854775808:=by
 have hp:2^s≤2^31:=Nat.pow_le_pow_right (by omega) (by omega)
 have h31:(2:Nat)^31=2147483648:=by decide
 have hm:x*2^s≤4294967295*2^s:=Nat.mul_le_mul_right _ (by omega)
 have ec:(x:Int)*2^s=((x*2^s:Nat):Int):=by simp
 have hb:c+x*2^s<4294967296*2^s:=by omega
 refine ⟨?_,hb,by omega⟩
 rw [ec,IntWalk.u64_in _ ⟨by omega,by omega⟩,or_join_low _ _ s (by omega) (by omega) (by omega) (by omega) ?_ (by omega)]
 ·omega
 ·rw [←Int.natCast_emod,Nat.mul_mod_left];rfl
def RetNF (w:World) (n:Nat) (e:Ending) (w':World):Prop:=
 ∃ao,e=.returned (.slice ao (limbs n).length (limbs n).length)∧Ns .u32 w' ao (limbs n).length (limbs n)∧Below w.heap.size w w'∧ ∀p,ao=some p→w.heap.size≤p.block
end Go.Ulp
namespace Go.Proofs.YtehhegbkahnhgaaGreatDoor
open Go.RowKit Go.Ulp
set_option maxHeartbeats 800000
set_option maxRecDepth 100000
theorem left_fresh (a0:Option Addr) (c0:Nat) (m n:Nat) (w:World) (h0:Ns .u32 w a0 c0 (limbs m)) (hm:(limbs m).length≤4294967296) (hn:n≤1099511627776) (hpos:0<(limbs m).length):
 Calls Tryz.prog 69 #[.slice a0 (limbs m).length c0,.int .i64 (n:Int)] w fun e w'=>RetNF w (m*2^n) e w':=by
 have lL:=limbs_lim m
 obtain ⟨hL1,hL2,hL3⟩:=h0
 unfold maxLen at hL2
 obtain ⟨q,hq⟩: ∃q,q=n/32:=⟨_,rfl⟩
 obtain ⟨s,hs⟩: ∃s,s=n%32:=⟨_,rfl⟩
 have hnq:n=32*q+s:=by omega
 have hs32:s<32:=by omega
 have e1:(n:Int)/32=(q:Int):=by omega
 have e2:(n:Int)%32=(s:Int):=by omega
 have HN:=hid hnq
 clear hq hs hnq
 go_enter Tryz.func69,Tryz.ntmps69
 go_wp2_with (at_make;refine wpList_makeLC ei_u32 (by omega) rfl _ _ rfl q (q+(limbs m).length+1) _ _ _ _ rfl rfl (by omega) (by omega) (by omega) (by omega) ?_;intro w1 hown hbl)
 go_loopw [5,6,23] (fun o c i wr=> ∃(k cc:Nat) (Q:List Nat),k≤(limbs m).length∧i=.int .i64 k∧c=.int .u64 cc∧cc<2^s∧Q.length=q+k∧Lim Q∧lval Q+4294967296^(q+k)*cc=lval ((limbs m).take k)*2^s*4294967296^q∧Own w.heap.size 106 .u32 wr o Q∧Below w.heap.size w wr) (fun _ _ i _=>(limbs m).length-(intOf i).toNat)
 case atStart=>
  exact ⟨0,0,_,by omega,rfl,rfl,Nat.two_pow_pos s,by simp,AllLt.replicate (by omega),by unfold lval;rw [val_replicate];simp [val],hown,hbl⟩
 case round=>
  clear hown hbl
  obtain ⟨k,cc,Q,hk,rfl,rfl,hcc,hQ,lQ,hv,hown,hb⟩:=hrel
  have HQ:=hid hQ
  have HV:=hid hv
  clear hQ hv
  by_cases hlt:k<(limbs m).length
  ·obtain ⟨b0,o0,rfl,hc0⟩:=hL3 (by omega)
   obtain ⟨x,hx⟩: ∃x,x=(limbs m).getD k 0:=⟨_,rfl⟩
   have hx1:x<4294967296:=by rw [hx];exact lL.getD (by omega) k
   have hcell:wr.cell? ⟨b0,o0+k,none⟩=some (.int .u32 (x:Int)):=by
    have h1:=hc0 k hlt
    have h2:=hb.cell (p:=⟨b0,o0+k,none⟩) (World.block_lt_of_cell? w _ h1)
    rw [h2,h1,hx];rfl
   clear hc0 hL3
   have HX:=hid hx
   clear hx
   obtain ⟨E,hy2,hy3⟩:=or_shl cc x s hs32 hcc hx1
   obtain ⟨y,hy⟩: ∃y,y=cc+x*2^s:=⟨_,rfl⟩
   rw [←hy] at E hy2 hy3
   have hy4:y/4294967296<2^s:=Nat.div_lt_of_lt_mul hy2
   have HY:=hid hy
   have HY4:=hid hy4
   clear hy hy2 hy4 hcc
   go_wp2_with (at_builtin;refine wpList_push ei_u32 (by omega) rfl _ _ rfl w.heap.size Q (y%4294967296) _ rfl (Own.alloc hown _) ⟨wr.heap.size,0,none⟩ rfl (cell_push _ _ _ _ _ (by omega)) (by rw [HQ.out];omega) (by simp;have:=hb.size;omega) ?_;intro v1 w1 hown1 hb1)
   go_roundw
   case rel=>exact ⟨k+1,y/4294967296,Q++ [y%4294967296],by omega,by go_num,by go_num,HY4.out,by rw [List.length_append,HQ.out];rfl,AllLt.append.2 ⟨lQ,AllLt.cons.2 ⟨Nat.mod_lt _ (by omega),AllLt.nil⟩⟩,by
    have:=left_step HV.out HY.out
    unfold lval at *
    rw [val_snoc,HQ.out,val_take_succ _ _ _ hlt,←HX.out];exact this,hown1,(hb.trans ((below_alloc wr _).mono hb.size)).trans hb1⟩
   case measure=>simp [intOf];omega
  ·have hke:k=(limbs m).length:=by omega
   have hfin:lval (Q++ [cc])=m*2^n:=by
    have:=HV.out
    rw [hke,List.take_of_length_le (Nat.le_refl _),lval_limbs,←hke] at this
    have hp:2^n=2^s*4294967296^q:=by
     rw [HN.out,Nat.add_comm,Nat.pow_add,Nat.pow_mul]
    rw [hp,←Nat.mul_assoc]
    unfold lval at *
    rw [val_snoc,HQ.out];exact this
   have hc31:cc<4294967296:=Nat.lt_of_lt_of_le hcc (Nat.le_trans (Nat.pow_le_pow_right (by omega) (show s≤32 by omega)) (by decide))
   have HF:=hid hfin
   clear hfin hke hcc
   go_wp2_with (at_builtin;refine wpList_push ei_u32 (by omega) rfl _ _ rfl w.heap.size Q cc _ rfl (Own.alloc hown _) ⟨wr.heap.size,0,none⟩ rfl (cell_push _ _ _ _ _ (by omega)) (by rw [HQ.out];omega) (by simp;have:=hb.size;omega) ?_;intro v1 w1 hown1 hb1)
   obtain ⟨ao,cap,rfl,hN⟩:=hown1.ns
   go_wp2_with fail
   have lQ1:Lim (Q++ [cc]):=AllLt.append.2 ⟨lQ,AllLt.cons.2 ⟨hc31,AllLt.nil⟩⟩
   refine (norm_any _ _ _ _ hN lQ1).mono ?_
   rintro e w' ⟨rfl,rfl⟩
   have hN':=hN.norm lQ1
   rw [HF.out] at hN' ⊢
   go_wp2_with fail
   go_ret
   exact ⟨_,rfl,hN',(hb.trans ((below_alloc wr _).mono hb.size)).trans hb1,hown1.fresh⟩
theorem left_any (a0:Option Addr) (c0:Nat) (m n:Nat) (w:World) (h0:Ns .u32 w a0 c0 (limbs m)) (hm:(limbs m).length≤4294967296) (hn:n≤1099511627776) (hp:0<(limbs m).length):
 Calls Tryz.prog 69 #[.slice a0 (limbs m).length c0,.int .i64 (n:Int)] w fun e w'=>RetN w (m*2^n) e w':=
 (left_fresh a0 c0 m n w h0 hm hn hp).mono fun _ _ ⟨ao,h1,h2,h3,_⟩=>⟨ao,h1,h2,h3⟩
theorem leftNil_any (a0:Option Addr) (c0:Nat) (n:Int) (w:World):
 Calls Tryz.prog 69 #[.slice a0 (limbs 0).length c0,.int .i64 n] w fun e w'=>RetN w 0 e w':=by
 rw [limbs_zero]
 go_enter Tryz.func69,Tryz.ntmps69
 go_wp2_with fail
 go_ret
 exact ⟨_,rfl,Ns.nil,Below.refl _ _⟩
theorem leftN_any (a0:Option Addr) (c0:Nat) (m n:Nat) (w:World) (h0:Ns .u32 w a0 c0 (limbs m)) (hm:(limbs m).length≤4294967296) (hn:n≤1099511627776):
 Calls Tryz.prog 69 #[.slice a0 (limbs m).length c0,.int .i64 (n:Int)] w fun e w'=>RetN w (m*2^n) e w':=by
 by_cases h:m=0
 ·subst h;rw [Nat.zero_mul];exact leftNil_any _ _ _ _
 ·exact left_any a0 c0 m n w h0 hm hn (List.length_pos_iff.2 (fun e=>h ((limbs_nil m).1 e)))
end Go.Proofs.YtehhegbkahnhgaaGreatDoor
namespace Go.Ulp
def lostB (V n:Nat):Bool:=decide (V%2^n≠0)
theorem b_pow (q:Nat):4294967296^q=2^(32*q):=by rw [Nat.pow_mul]
theorem lost_lo (V x k q s:Nat) (hk:k<q) (hV:V<4294967296^k) (hx:x<4294967296):lostB (V+4294967296^k*x) (32*q+s)=(lostB V (32*q+s)||x !=0):=by
 have h1:V+4294967296^k*x<2^(32*q+s):=by
  have a1:V+4294967296^k*x<4294967296^(k+1):=by
   rw [Nat.pow_succ]
   have:=Nat.mul_le_mul_left (4294967296^k) (show x+1≤4294967296 by omega)
   rw [Nat.mul_add] at this;omega
  refine Nat.lt_of_lt_of_le a1 ?_
  rw [b_pow];exact Nat.pow_le_pow_right (by omega) (by omega)
 have h2:V<2^(32*q+s):=by omega
 unfold lostB
 rw [Nat.mod_eq_of_lt h1,Nat.mod_eq_of_lt h2,Bool.eq_iff_iff]
 have hp:0<4294967296^k:=Nat.pow_pos (by omega)
 simp only [decide_eq_true_eq,Bool.or_eq_true,bne_iff_ne]
 constructor
 ·intro h;by_cases hx0:x=0
  ·left;subst hx0;simpa using h
  ·right;exact hx0
 ·rintro (h|h)
  ·omega
  ·have:=Nat.mul_pos hp (show 0<x by omega);omega
theorem lost_at (V x q s:Nat) (hV:V<4294967296^q):lostB (V+4294967296^q*x) (32*q+s)=(lostB V (32*q+s)||(x%2^s !=0)):=by
 have hp:0<4294967296^q:=Nat.pow_pos (by omega)
 have e:2^(32*q+s)=4294967296^q*2^s:=by rw [Nat.pow_add,←b_pow]
 have h1:(V+4294967296^q*x)%2^(32*q+s)=V+4294967296^q*(x%2^s):=by
  rw [e,Nat.mod_mul,Nat.add_mul_mod_self_left,Nat.mod_eq_of_lt hV,Nat.add_mul_div_left _ _ hp,Nat.div_eq_of_lt hV,Nat.zero_add]
 have h2:V%2^(32*q+s)=V:=Nat.mod_eq_of_lt (by rw [e];exact Nat.lt_of_lt_of_le hV (Nat.le_mul_of_pos_right _ (Nat.two_pow_pos s)))
 unfold lostB
 rw [h1,h2,Bool.eq_iff_iff]
 simp only [decide_eq_true_eq,Bool.or_eq_true,bne_iff_ne]
 constructor
 ·intro h;by_cases hx0:x%2^s=0
  ·left;rw [hx0] at h;simpa using h
  ·right;exact hx0
 ·rintro (h|h)
  ·omega
  ·have:=Nat.mul_pos hp (show 0<x%2^s by omega);omega
theorem lost_hi (V x k q s:Nat) (hk:q<k) (hs:s<32):lostB (V+4294967296^k*x) (32*q+s)=lostB V (32*q+s):=by
 have e:4294967296^k=2^(32*q+s)*2^(32*k-(32*q+s)):=by rw [b_pow,←Nat.pow_add];congr 1;omega
 unfold lostB
 rw [e,Nat.mul_assoc,Nat.add_mul_mod_self_left]
theorem right_step (x D y s:Nat) (hs:s<32) (hy:y=D%4294967296) (hx:x<4294967296):(x+4294967296*D)/2^s=(x+4294967296*y)/2^s%4294967296+4294967296*(D/2^s):=by
 have hp:0<2^s:=Nat.two_pow_pos s
 have e32:4294967296=2^s*2^(32-s):=by rw [←Nat.pow_add,show s+(32-s)=32 by omega]
 have h1:(x+4294967296*D)/2^s/4294967296=D/2^s:=by
  rw [Nat.div_div_eq_div_mul,Nat.mul_comm (2^s),←Nat.div_div_eq_div_mul,Nat.add_mul_div_left _ _ (by omega),Nat.div_eq_of_lt hx,Nat.zero_add]
 have h2:(x+4294967296*D)/2^s%4294967296=(x+4294967296*y)/2^s%4294967296:=by
  have e:x+4294967296*D=(x+4294967296*y)+2^s*(4294967296*(2^(32-s)*(D/4294967296))):=by
   have a1:=Nat.mod_add_div D 4294967296
   have a2:2^s*(4294967296*(2^(32-s)*(D/4294967296)))=4294967296*(4294967296*(D/4294967296)):=by
    rw [←Nat.mul_assoc,Nat.mul_comm (2^s),Nat.mul_assoc,←Nat.mul_assoc (2^s),←e32]
   rw [a2,hy];omega
  rw [e,Nat.add_mul_div_left _ _ hp,Nat.add_mul_mod_self_left]
 have:=Nat.mod_add_div ((x+4294967296*D)/2^s) 4294967296
 rw [h1,h2] at this;exact this.symm
theorem and_mask_u32 (x s:Nat) (hs:s<32) (hx:x<4294967296):bits .and .u32 (x:Int) (((2^s-1:Nat)):Int)=((x%2^s:Nat):Int):=by
 have hp:2^s≤2^31:=Nat.pow_le_pow_right (by omega) (by omega)
 have h31:(2:Nat)^31=2147483648:=by decide
 rw [u32_and_nat x (2^s-1) (by omega) (by omega),Nat.and_two_pow_sub_one_eq_mod]
theorem bne_cast (x:Nat):((x:Int) !=0)=(x !=0):=by rw [Bool.eq_iff_iff];simp
theorem mask_bne (x s:Nat) (hs:s<32) (hx:x<4294967296):(bits .and .u32 (x:Int) (((2:Int)^s-1)%4294967296) !=0)=(x%2^s !=0):=by
 have hp:2^s≤2^31:=Nat.pow_le_pow_right (by omega) (by omega)
 have hp0:0<2^s:=Nat.two_pow_pos s
 have h31:(2:Nat)^31=2147483648:=by decide
 have e:((2:Int)^s-1)%4294967296=((2^s-1:Nat):Int):=by
  have:(2:Int)^s=((2^s:Nat):Int):=by simp
  rw [this];omega
 rw [e,and_mask_u32 x s hs hx,bne_cast]
theorem right_zero (m n q s:Nat) (hn:n=32*q+s) (h:(limbs m).length≤q):m/2^n=0:=by
 have h1:m<4294967296^q:=(digs_len_le _ (by omega) _ _).1 h
 rw [b_pow] at h1
 exact Nat.div_eq_of_lt (Nat.lt_of_lt_of_le h1 (Nat.pow_le_pow_right (by omega) (by omega)))
theorem right_all (m n q s:Nat) (hn:n=32*q+s) (h:q≤(limbs m).length):lval ((limbs m).drop q)/2^s=m/2^n:=by
 have e:m=lval ((limbs m).take q)+4294967296^q*lval ((limbs m).drop q):=by
  have:=val_take_drop 4294967296 (limbs m) q h;rw [show val 4294967296 (limbs m)=m from lval_limbs m] at this;exact this
 have hV:lval ((limbs m).take q)<4294967296^q:=by have:=lval_lt _ ((limbs_lim m).take q);rwa [List.length_take,Nat.min_eq_left (by omega)] at this
 rw [hn,Nat.pow_add,←b_pow,←Nat.div_div_eq_div_mul]
 conv=>rhs;rw [e]
 rw [Nat.add_mul_div_left _ _ (Nat.pow_pos (by omega)),Nat.div_eq_of_lt hV,Nat.zero_add]
end Go.Ulp
namespace Go.Proofs.YtehhegbkahnhgaaGreatDoor
open Go.RowKit Go.Ulp
set_option maxHeartbeats 800000
set_option maxRecDepth 100000
theorem right_any (a0:Option Addr) (c0:Nat) (m n:Nat) (w:World) (h0:Ns .u32 w a0 c0 (limbs m)) (hm:(limbs m).length≤4294967296) (hn:n≤4294967296000):
 Calls Tryz.prog 107 #[.slice a0 (limbs m).length c0,.int .i64 (n:Int)] w fun e w'=>RetN2 w (m/2^n) (.bool (lostB m n)) e w':=by
 have lL:=limbs_lim m
 obtain ⟨hL1,hL2,hL3⟩:=h0
 unfold maxLen at hL2
 obtain ⟨q,hq⟩: ∃q,q=n/32:=⟨_,rfl⟩
 obtain ⟨s,hs⟩: ∃s,s=n%32:=⟨_,rfl⟩
 have hnq:n=32*q+s:=by omega
 have hs32:s<32:=by omega
 have e1:(n:Int)/32=(q:Int):=by omega
 have e2:(n:Int)%32=(s:Int):=by omega
 have HN:=hid hnq
 clear hq hs hnq
 go_enter Tryz.func107,Tryz.ntmps107
 go_wp2_with fail
 go_loop [6,7,8,14] (fun lo _ _ i=> ∃(k:Nat) (bb:Bool),k≤(limbs m).length∧i=.int .i64 k∧lo=.bool bb∧bb=lostB (lval ((limbs m).take k)) n) (fun _ _ _ i=>(limbs m).length-(intOf i).toNat)
 case atStart=>exact ⟨0,false,by omega,rfl,rfl,by simp [lval,val,lostB]⟩
 case round=>
  obtain ⟨k,bb,hk,rfl,rfl,hbb⟩:=hrel
  by_cases hlt:k<(limbs m).length
  ·obtain ⟨b0,o0,rfl,hc0⟩:=hL3 (by omega)
   obtain ⟨x,hx⟩: ∃x,x=(limbs m).getD k 0:=⟨_,rfl⟩
   have hx1:x<4294967296:=by rw [hx];exact lL.getD (by omega) k
   have hcell:w.cell? ⟨b0,o0+k,none⟩=some (.int .u32 (x:Int)):=by
    rw [hc0 k hlt,hx];rfl
   clear hc0 hL3
   have hV:lval ((limbs m).take k)<4294967296^k:=by have:=lval_lt _ (lL.take k);rwa [List.length_take,Nat.min_eq_left (by omega)] at this
   have hts:lval ((limbs m).take (k+1))=lval ((limbs m).take k)+4294967296^k*x:=by rw [hx];exact val_take_succ _ _ _ hlt
   have hnx:lostB (lval ((limbs m).take (k+1))) n=if k<q then (bb||x !=0) else if k=q then (bb||x%2^s !=0) else bb:=by
    rw [hts,hbb,HN.out]
    by_cases h1:k<q
    ·rw [if_pos h1];exact lost_lo _ _ _ _ _ h1 hV hx1
    ·rw [if_neg h1]
     by_cases h2:k=q
     ·rw [if_pos h2];subst h2;exact lost_at _ _ _ _ hV
     ·rw [if_neg h2];exact lost_hi _ _ _ _ _ (by omega) hs32
   have E:=and_mask_u32 x s hs32 hx1
   have HNX:=hid hnx
   clear hbb hV hts hnx hx
   by_cases h1:k<q
   ·cases bb
    all_goals
     go_wp2_with fail
     go_round
     case rel=>exact ⟨k+1,_,by omega,by go_num,rfl,by rw [HNX.out,if_pos (by omega)];first|rfl|rw [bne_cast];rfl⟩
     case measure=>simp [intOf];omega
   ·by_cases h2:k=q
    ·obtain rfl:k=q:=h2
     cases bb
     all_goals
      go_wp2_with fail
      go_round
      case rel=>exact ⟨k+1,_,by omega,by go_num,rfl,by rw [HNX.out,if_neg (by omega),if_pos rfl];first|rfl|rw [mask_bne x s hs32 hx1];rfl⟩
      case measure=>simp [intOf];omega
    ·go_wp2_with fail
     go_round
     case rel=>exact ⟨k+1,bb,by omega,by go_num,rfl,by rw [HNX.out,if_neg (by omega),if_neg (by omega)]⟩
     case measure=>simp [intOf];omega
  ·have hke:k=(limbs m).length:=by omega
   rw [hke,List.take_of_length_le (Nat.le_refl _),lval_limbs] at hbb
   have HBB:=hid hbb
   clear hke hbb
   by_cases hq:(limbs m).length≤q
   ·have HZ:=hid (right_zero m n q s HN.out hq)
    go_wp2_with fail
    go_ret2
    rw [HZ.out]
    exact ⟨none,by rw [←HBB.out];rfl,Ns.nil,Below.refl _ _⟩
   ·have HA:=hid (right_all m n q s HN.out (by omega))
    go_wp2_with fail
    go_loopw [9,10,11] (fun o i _ wr=> ∃(k:Nat) (Q:List Nat),q+k≤(limbs m).length∧i=.int .i64 ((q+k:Nat):Int)∧Q.length=k∧Lim Q∧lval Q+4294967296^k*(lval ((limbs m).drop (q+k))/2^s)=m/2^n∧Own w.heap.size 106 .u32 wr o Q∧Below w.heap.size w wr) (fun _ i _ _=>(limbs m).length-(intOf i).toNat)
    case atStart=>exact ⟨0,[],by omega,rfl,rfl,AllLt.nil,by simp [lval,val];exact HA.out,Own.nil,Below.refl _ _⟩
    case round=>
     obtain ⟨k2,Q,hk2,rfl,hQ,lQ,hv,hown,hb⟩:=hrel
     obtain ⟨i,hi⟩: ∃i,i=q+k2:=⟨_,rfl⟩
     have hk3:k2≤i:=by omega
     rw [←hi] at hk2 hv ⊢
     have HI:=hid hi
     have HQ:=hid hQ
     have HV:=hid hv
     clear hQ hv hi
     by_cases hlt2:i<(limbs m).length
     ·obtain ⟨b0,o0,rfl,hc0⟩:=hL3 (by omega)
      obtain ⟨x,hx⟩: ∃x,x=(limbs m).getD i 0:=⟨_,rfl⟩
      have hx1:x<4294967296:=by rw [hx];exact lL.getD (by omega) i
      have hcell:wr.cell? ⟨b0,o0+i,none⟩=some (.int .u32 (x:Int)):=by
       have h1:=hc0 i hlt2
       have h2:=hb.cell (p:=⟨b0,o0+i,none⟩) (World.block_lt_of_cell? w _ h1)
       rw [h2,h1,hx];rfl
      have hdr:lval ((limbs m).drop i)=x+4294967296*lval ((limbs m).drop (i+1)):=by rw [hx];exact val_drop _ _ _ hlt2
      have HX:=hid hx
      clear hx
      have HDR:=hid hdr
      clear hdr
      by_cases hlt3:i+1<(limbs m).length
      ·obtain ⟨y,hy⟩: ∃y,y=(limbs m).getD (i+1) 0:=⟨_,rfl⟩
       have hy1:y<4294967296:=by rw [hy];exact lL.getD (by omega) _
       have hcell1:wr.cell? ⟨b0,o0+(i+1),none⟩=some (.int .u32 (y:Int)):=by
        have h1:=hc0 (i+1) hlt3
        have h2:=hb.cell (p:=⟨b0,o0+(i+1),none⟩) (World.block_lt_of_cell? w _ h1)
        rw [h2,h1,hy];rfl
       have hyd:y=lval ((limbs m).drop (i+1))%4294967296:=by
        have:lval ((limbs m).drop (i+1))=(limbs m).getD (i+1) 0+4294967296*lval ((limbs m).drop (i+1+1)):=val_drop _ _ _ hlt3
        rw [this,←hy];omega
       clear hc0 hL3
       have HY:=hid hyd
       clear hyd hy
       have E:=or_join32' (y:Int) (x:Int) (by omega) (by omega) (by omega) (by omega)
       have hz1:x+4294967296*y<18446744073709551616:=by omega
       have ecast:((x:Int)+(y:Int)*4294967296)/(2:Int)^s%4294967296=(((x+4294967296*y)/2^s%4294967296:Nat):Int):=by
        have:(x:Int)+(y:Int)*4294967296=((x+4294967296*y:Nat):Int):=by omega
        rw [this];simp
       have HE:=hid ecast
       clear ecast
       go_wp2_with (at_builtin;refine wpList_push ei_u32 (by omega) rfl _ _ rfl w.heap.size Q ((x+4294967296*y)/2^s%4294967296) _ rfl (Own.alloc hown _) ⟨wr.heap.size,0,none⟩ rfl (cell_push _ _ _ _ _ HE.out) (by rw [HQ.out];omega) (by simp;have:=hb.size;omega) ?_;intro v1 w1 hown1 hb1)
       go_roundw
       case rel=>exact ⟨k2+1,Q++ [(x+4294967296*y)/2^s%4294967296],by have:=HI.out;omega,by have:=HI.out;go_num,by rw [List.length_append,HQ.out];rfl,AllLt.append.2 ⟨lQ,AllLt.cons.2 ⟨Nat.mod_lt _ (by omega),AllLt.nil⟩⟩,by
        have h1:=right_step x (lval ((limbs m).drop (i+1))) y s hs32 HY.out hx1
        have h2:=HV.out
        rw [HDR.out,h1] at h2
        rw [show q+(k2+1)=i+1 by have:=HI.out;omega]
        unfold lval at *
        rw [val_snoc,HQ.out,←h2,Nat.pow_succ,Nat.mul_add,Nat.mul_assoc];omega,hown1,(hb.trans ((below_alloc wr _).mono hb.size)).trans hb1⟩
       case measure=>simp [intOf];omega
      ·have hyd:0=lval ((limbs m).drop (i+1))%4294967296:=by
        rw [List.drop_eq_nil_iff.2 (by omega)];simp [lval,val]
       clear hc0 hL3
       have HY:=hid hyd
       clear hyd
       have ecast:(x:Int)/(2:Int)^s%4294967296=((x/2^s%4294967296:Nat):Int):=by simp
       have HE:=hid ecast
       clear ecast
       go_wp2_with (at_builtin;refine wpList_push ei_u32 (by omega) rfl _ _ rfl w.heap.size Q (x/2^s%4294967296) _ rfl (Own.alloc hown _) ⟨wr.heap.size,0,none⟩ rfl (cell_push _ _ _ _ _ HE.out) (by rw [HQ.out];omega) (by simp;have:=hb.size;omega) ?_;intro v1 w1 hown1 hb1)
       go_roundw
       case rel=>exact ⟨k2+1,Q++ [x/2^s%4294967296],by have:=HI.out;omega,by have:=HI.out;go_num,by rw [List.length_append,HQ.out];rfl,AllLt.append.2 ⟨lQ,AllLt.cons.2 ⟨Nat.mod_lt _ (by omega),AllLt.nil⟩⟩,by
        have h1:=right_step x (lval ((limbs m).drop (i+1))) 0 s hs32 HY.out hx1
        have h2:=HV.out
        simp only [Nat.mul_zero,Nat.add_zero] at h1
        rw [HDR.out,h1] at h2
        rw [show q+(k2+1)=i+1 by have:=HI.out;omega]
        unfold lval at *
        rw [val_snoc,HQ.out,←h2,Nat.pow_succ,Nat.mul_add,Nat.mul_assoc];omega,hown1,(hb.trans ((below_alloc wr _).mono hb.size)).trans hb1⟩
       case measure=>simp [intOf];omega
     ·have hfin:lval Q=m/2^n:=by
       have:=HV.out
       rw [List.drop_eq_nil_iff.2 (by omega)] at this
       simpa [lval,val] using this
      have HF:=hid hfin
      clear hfin
      obtain ⟨ao,cap,rfl,hN⟩:=hown.ns
      go_wp2_with fail
      refine (norm_any _ _ _ _ hN lQ).mono ?_
      rintro e w' ⟨rfl,rfl⟩
      have hN':=hN.norm lQ
      rw [HF.out] at hN' ⊢
      go_wp2_with fail
      go_ret2
      exact ⟨_,by rw [←HBB.out];rfl,hN',hb⟩
end Go.Proofs.YtehhegbkahnhgaaGreatDoor
namespace Go.Ulp
open Go.RowKit
def mantOf (x:Int):Int:=if 0<expOf x then fracOf x+4503599627370496 else fracOf x
def dexp (x:Int):Int:=max (expOf x) 1-1075
def fv (x:Int):Dy:=nrm (sg (negB x) (mantOf x)) (dexp x)
theorem mantOf_bd (x:Int):0≤mantOf x∧mantOf x<9007199254740992:=by have:=fracOf_bd x;unfold mantOf;split<;>omega
theorem dexp_bd (x:Int): -1074≤dexp x∧dexp x≤972:=by have:=expOf_bd x;unfold dexp;omega
end Go.Ulp
namespace Go.Proofs.YtehhegbkahnhgaaGreatDoor
open Go.RowKit Go.Ulp
set_option maxHeartbeats 1000000
set_option maxRecDepth 100000
theorem qmake_any (a0:Option Addr) (c0:Nat) (x:Int) (n:Int) (A E:Nat) (w:World) (h0:Nz 3 w a0 c0 (zl x)) (hx:x.natAbs<2^A) (hA:A≤1000000000) (hn: -(E:Int)≤n∧n≤E) (hE:E≤1000000):
 Calls Tryz.prog 37 #[.agg #[.bool (zneg x),.slice a0 (zl x).length c0],.int .i64 n] w fun e w'=>RetQD 3 w (nrm x n) (A+E) E e w':=by
 have lx:=zl_len_bits x A hx
 by_cases h:n<0
 ·have e1: -n=(((-n).toNat:Nat):Int):=by omega
  refine (qmake_neg a0 c0 x n w h0 h (by omega)).mono ?_
  intro e w' hr
  rw [e1] at hr
  exact hr.qd (by congr 1;omega) (abs_weak hx (by omega)) (by omega)
 ·obtain ⟨k,rfl⟩:=Int.eq_ofNat_of_zero_le (show 0≤n by omega)
  refine (qmake_pos a0 c0 x k w h0 (by omega) (by omega)).mono ?_
  intro e w' hr
  exact RetQ.qd (n:=0) hr (by rw [nrm_scale];congr 1;omega) (abs_weak (abs_mul_pw_lt hx) (by omega)) (by omega)
theorem qneg_any (v:Value) (D:Dy) (A T:Nat) (w:World) (hv:QD 3 w D A T v) (hA:A≤100000000) (hT:T≤100000000):
 Calls Tryz.prog 115 #[v] w fun e w'=>RetQD 3 w (negD D) A T e w':=by
 obtain ⟨x,n,a0,c0,rfl,h0,hD,hxA,hn⟩:=hv
 have hD':=hid (show nrm (-x) (-(n:Int))=negD D by rw [←hD,nrm_neg])
 have hA':=hid (show (-x).natAbs<2^A by rw [Int.natAbs_neg];exact hxA)
 clear hD hxA
 go_enter Tryz.func115,Tryz.ntmps115
 go_wp2_with fail
 have zR0:QL 49 ((w.alloc (.cells #[.bool (zneg x),.slice a0 (zl x).length c0,.int .i64 (n:Int)] 49)).alloc (.cells #[.bool false,.slice none 0 0,.int .i64 0] 49)) (w.heap.size+1) false (.slice none 0 0) 0:=QL.made (by first|omega|(simp;done)|(simp;omega))
 have zA0:QL 49 ((w.alloc (.cells #[.bool (zneg x),.slice a0 (zl x).length c0,.int .i64 (n:Int)] 49)).alloc (.cells #[.bool false,.slice none 0 0,.int .i64 0] 49)) w.heap.size (zneg x) (.slice a0 (zl x).length c0) n:=(QL.made rfl).alloc _
 have zR:=zR0.drew
 have zA:=zA0.drew
 have yb:Below w.heap.size w ((w.alloc (.cells #[.bool (zneg x),.slice a0 (zl x).length c0,.int .i64 (n:Int)] 49)).alloc (.cells #[.bool false,.slice none 0 0,.int .i64 0] 49)).drew:=by (repeat' first|(with_reducible first|assumption|apply bR|apply bA|apply bN|apply bD|apply bL|apply bS)|refine bT ?_ (by assumption)|go_size)
 clear zR0 zA0
 go_region_with (go_at_call 78;refine (zneg_any _ _ _ _ (h0.below (by (repeat' first|(with_reducible first|assumption|apply bR|apply bA|apply bN|apply bD|apply bL|apply bS)|refine bT ?_ (by assumption)|go_size)))).mono ?_;rintro e wn ⟨aon,capn,rfl,hNn,hbn⟩;have zRn:=QL.below (w':=wn) zR (by (repeat' first|(with_reducible first|assumption|apply bR|apply bA|apply bN|apply bD|apply bL|apply bS)|refine bT ?_ (by assumption)|go_size));have zAn:=QL.below (w':=wn) zA (by (repeat' first|(with_reducible first|assumption|apply bR|apply bA|apply bN|apply bD|apply bL|apply bS)|refine bT ?_ (by assumption)|go_size));have ybn:Below w.heap.size w wn:=(by (repeat' first|(with_reducible first|assumption|apply bR|apply bA|apply bN|apply bD|apply bL|apply bS)|refine bT ?_ (by assumption)|go_size));have k0:=zRn.1.1;have k1:=zRn.1.2.1;have f0:=zRn.1.2.2.1;have f1:=zRn.1.2.2.2.1;have k2:=zRn.2.1;have f2:=zRn.2.2;have j0:=zAn.1.1;have j1:=zAn.1.2.1;have j2:=zAn.2.1)
 all_goals
  have hs2:=zRn.1.2.2.2.2
  go_wp2_with fail
  refine bodyPost_ret (by simp [results,Tryz.results115,go_sem,k0,k1,k2];try rfl) rfl ?_
  exact ⟨_,rfl,⟨_,_,_,_,rfl,((hNn.setCell hs2 (by decide) _ _).setCell (hs2.setCell _ _) (by decide) _ _).setCell ((hs2.setCell _ _).setCell _ _) (by decide) _ _,hD'.out,hA'.out,hn⟩,((ybn.setCell (by first|omega|(simp;done)|(simp;omega)) _).setCell (by first|omega|(simp;done)|(simp;omega)) _).setCell (by first|omega|(simp;done)|(simp;omega)) _⟩
theorem qshift_any (v:Value) (D:Dy) (A T:Nat) (n:Int) (w:World) (hv:QD 3 w D A T v) (hA:A≤100000000) (hT:T≤200000) (hn1: -200000≤n) (hn2:n≤200000):
 Calls Tryz.prog 87 #[v,.int .i64 n] w fun e w'=>RetQD 3 w (shD D n) (A+400000) 400000 e w':=by
 obtain ⟨x,t,a0,c0,rfl,h0,hD,hxA,hn⟩:=hv
 have hD':=hid (show nrm x (n-(t:Int))=shD D n by rw [←hD,←nrm_shift];congr 1;omega)
 have hxA':=hid hxA
 clear hD hxA
 go_enter Tryz.func87,Tryz.ntmps87
 go_wp2_with fail
 have zR0:QL 49 ((w.alloc (.cells #[.bool (zneg x),.slice a0 (zl x).length c0,.int .i64 (t:Int)] 49)).alloc (.cells #[.bool false,.slice none 0 0,.int .i64 0] 49)) (w.heap.size+1) false (.slice none 0 0) 0:=QL.made (by first|omega|(simp;done)|(simp;omega))
 refine (qmake_any _ _ _ _ A 400000 _ (h0.below (by (repeat' first|(with_reducible first|assumption|apply bR|apply bA|apply bN|apply bD|apply bL|apply bS)|refine bT ?_ (by assumption)|go_size))) hxA'.out (by omega) ⟨by omega,by omega⟩ (by omega)).mono ?_
 rintro e w1 ⟨v1,rfl,⟨y,s,b0,d0,rfl,hY,hE,hyA,hs⟩,hb⟩
 have zR:=zR0.below hb
 have yb:Below w.heap.size w w1:=below_trans (by (repeat' first|(with_reducible first|assumption|apply bR|apply bA|apply bN|apply bD|apply bL|apply bS)|refine bT ?_ (by assumption)|go_size)) hb
 rw [hD'.out] at hE
 have HE:=hid hE
 have HYA:=hid hyA
 clear zR0 hb hE hyA
 obtain ⟨⟨k0,k1,f0,f1,hs2⟩,k2,f2⟩:=zR
 go_wp2_with fail
 refine bodyPost_ret (by simp [results,Tryz.results87,go_sem,k0,k1,k2];try rfl) rfl ?_
 exact ⟨_,rfl,⟨_,_,_,_,rfl,((hY.setCell hs2 (by decide) _ _).setCell (hs2.setCell _ _) (by decide) _ _).setCell ((hs2.setCell _ _).setCell _ _) (by decide) _ _,HE.out,HYA.out,hs⟩,((yb.setCell (by first|omega|(simp;done)|(simp;omega)) _).setCell (by first|omega|(simp;done)|(simp;omega)) _).setCell (by first|omega|(simp;done)|(simp;omega)) _⟩
end Go.Proofs.YtehhegbkahnhgaaGreatDoor
namespace Go.Ulp
theorem sg_mul (neg:Bool) (x y:Int):sg neg x*y=sg neg (x*y):=by unfold sg;cases neg<;>simp [Int.neg_mul]
theorem rvs_nat (a:Nat):rvs (a:Int)=(rvi a:Int):=by unfold rvs;rw [if_neg (by omega),Int.natAbs_natCast]
theorem rvs_sg (b:Bool) (a:Nat):rvs (sg b (a:Int))=sg b (rvi a:Int):=by
 cases b
 ·exact rvs_nat a
 ·show rvs (-(a:Int))= -(rvi a:Int);rw [rvs_neg,rvs_nat]
theorem rank_sg (x:Int) (a:Nat) (ha:(a:Int)=x%9223372036854775808):rankOf x=sg (negB x) (a:Int):=by
 unfold rankOf sg negB
 by_cases hn:9223372036854775808≤x
 ·simp [hn,ha]
 ·simp [hn,ha]
theorem fv_rank (x:Int) (h0:0≤x) (h1:x<18446744073709551616):fv x=nrm (rvs (rankOf x)) (-1074):=by
 obtain ⟨a,ha⟩: ∃a:Nat,(a:Int)=x%9223372036854775808:=⟨(x%9223372036854775808).toNat,by omega⟩
 have ee:expOf x=((a/4503599627370496:Nat):Int):=by unfold expOf;omega
 have ef:fracOf x=((a%4503599627370496:Nat):Int):=by unfold fracOf;omega
 obtain ⟨k,hk⟩: ∃k:Nat,(k:Int)=max (expOf x) 1-1:=⟨(max (expOf x) 1-1).toNat,by have:=expOf_bd x;omega⟩
 have hd:dexp x= -1074+(k:Int):=by unfold dexp;omega
 have hv:mantOf x*pw k=(rvi a:Int):=by
  unfold mantOf rvi
  rw [ee,ef] at *
  by_cases h:a<4503599627370496
  ·rw [if_neg (by omega),if_pos h,show k=0 by omega,pw_zero];omega
  ·rw [if_pos (by omega),if_neg h,show k=a/4503599627370496-1 by omega,pw_nat,Int.natCast_mul];congr 1
 unfold fv
 rw [hd,←nrm_scale,sg_mul,hv,rank_sg x a ha,rvs_sg]
theorem cmp_fv (x y:Int) (h0:0≤x) (h1:x<18446744073709551616) (k0:0≤y) (k1:y<18446744073709551616):cmpD (fv x) (fv y)=cmpI (rankOf x) (rankOf y):=by
 rw [fv_rank x h0 h1,fv_rank y k0 k1,←cmp_nrm _ _ _ _ (-1074) (.inl (by omega)) (.inl (by omega)),sc_self,sc_self,rvs_cmp]
open Go.RowKit
theorem QL.far {t:TypeId} {w:World} {g:Nat} {n:Bool} {v:Value} {k:Int} (h:QL t w g n v k) (a:Addr) (u:Value) (hne:g≠a.block):QL t (w.setCell a u) g n v k:=by
 refine ⟨h.1.far a u hne,?_,?_⟩
 ·rw [World.cell?_setCell_other (h:=fun e=>hne (by rw [e]))];exact h.2.1
 ·rw [frozen_setCell];exact h.2.2
theorem QL.set2far {t:TypeId} {w:World} {g:Nat} {n:Bool} {v:Value} {k:Int} (h:QL t w g n v k) {b:Nat} {u u':Value} (hne:g≠b):QL t ((w.setCell ⟨b,0,none⟩ u).setCell ⟨b,1,none⟩ u') g n v k:=
 (h.far _ _ hne).far _ _ hne
end Go.Ulp
namespace Go.Proofs.YtehhegbkahnhgaaGreatDoor
open Go.RowKit Go.Ulp
set_option maxHeartbeats 1000000
set_option maxRecDepth 100000
theorem zN9_any (w:World):Calls Tryz.prog 38 #[.int .i64 1000000000] w fun e w'=>RetZ 3 w 1000000000 e w':=zN_any 1000000000 (by omega) w
theorem qval_gen (A:Nat) (hA:1127≤A) (x:Int) (hx0:0≤x) (hx1:x<18446744073709551616) (w:World):
 Calls Tryz.prog 34 #[.int .u64 x] w fun e w'=>RetQD 3 w (fv x) A 1100 e w':=by
 have hmb:=mantOf_bd x
 have hdb:=dexp_bd x
 have hfb:=fracOf_bd x
 have heb:=expOf_bd x
 obtain ⟨m,hm⟩:=Int.eq_ofNat_of_zero_le hmb.1
 have hmax:max (expOf x) 1-1075=dexp x:=rfl
 have hfv:=hid (show nrm (sg (negB x) (m:Int)) (dexp x)=fv x by unfold fv;rw [hm])
 have hcase:(0<expOf x∧fracOf x+4503599627370496=(m:Int)∧Hid (dexp x=expOf x-1075))∨(¬0<expOf x∧fracOf x=(m:Int)∧Hid (dexp x= -1074)):=by
  unfold mantOf at hm
  by_cases h:0<expOf x
  ·rw [if_pos h] at hm;exact .inl ⟨h,hm,hid (by unfold dexp;omega)⟩
  ·rw [if_neg h] at hm;exact .inr ⟨h,hm,hid (by unfold dexp;omega)⟩
 have hm1:m<9007199254740992:=by omega
 obtain ⟨hi,hhi⟩: ∃z,z=m/1000000000:=⟨_,rfl⟩
 obtain ⟨lo,hlo⟩: ∃z,z=m%1000000000:=⟨_,rfl⟩
 have ehi:(m:Int)/1000000000=(hi:Int):=by omega
 have elo:(m:Int)%1000000000=(lo:Int):=by omega
 have hsum:=hid (show (hi:Int)*1000000000+(lo:Int)=(m:Int) by omega)
 have hbh:hi<9223372036854775808:=by omega
 have hbl:lo<9223372036854775808:=by omega
 have lhi:(zl (hi:Int)).length≤64:=zl_len_bits _ _ (by rw [Int.natAbs_natCast];omega)
 have llo:(zl (lo:Int)).length≤64:=zl_len_bits _ _ (by rw [Int.natAbs_natCast];omega)
 have l9:(zl (1000000000:Int)).length≤64:=zl_len_bits _ _ (by decide)
 have lpr:(zl ((hi:Int)*1000000000)).length≤64:=zl_len_bits _ _ (by omega)
 have hma:=hid (show (m:Int).natAbs<2^53 by rw [Int.natAbs_natCast];omega)
 have hma2:=hid (show (-(m:Int)).natAbs<2^53 by rw [Int.natAbs_neg,Int.natAbs_natCast];omega)
 clear hm hhi hlo hmb
 have HM:=hid hmax
 cases hneg:negB x
 all_goals
  rw [hneg] at hfv
  rcases hcase with ⟨he,hfr,hde⟩|⟨he,hfr,hde⟩
  all_goals
   go_enter Tryz.func34,Tryz.ntmps34
   go_wp2_with (go_at_call 75;refine (fields_any x hx0 hx1 _).mono ?_;rintro e w' ⟨rfl,rfl⟩)
   have zR0:QL 49 (w.alloc (.cells #[.bool false,.slice none 0 0,.int .i64 0] 49)) w.heap.size false (.slice none 0 0) 0:=QL.made (by first|omega|(simp;done)|(simp;omega))
   have yb0:Below w.heap.size w (w.alloc (.cells #[.bool false,.slice none 0 0,.int .i64 0] 49)):=by (repeat' first|(with_reducible first|assumption|apply bR|apply bA|apply bN|apply bD|apply bL|apply bS)|refine bT ?_ (by assumption)|go_size)
   refine (zN_any hi hbh _).mono ?_
   rintro e w1 ⟨a1,c1,rfl,hN1,hb1⟩
   have zR1:=zR0.below hb1
   have yb1:=below_trans yb0 hb1
   clear zR0 yb0
   go_wp2_with fail
   refine (zN9_any _).mono ?_
   rintro e w2 ⟨a2,c2,rfl,hN2,hb2⟩
   have zR2:=zR1.below hb2
   have yb2:=below_trans yb1 hb2
   clear zR1 yb1
   go_wp2_with fail
   refine (zmul_any _ _ _ _ _ _ _ (hN1.below hb2) hN2 (by omega) (by omega)).mono ?_
   rintro e w3 ⟨a3,c3,rfl,hN3,hb3⟩
   have zR3:=zR2.below hb3
   have yb3:=below_trans yb2 hb3
   clear zR2 yb2 hb1 hb2 hN1 hN2
   go_wp2_with fail
   refine (zN_any lo hbl _).mono ?_
   rintro e w4 ⟨a4,c4,rfl,hN4,hb4⟩
   have zR4:=zR3.below hb4
   have yb4:=below_trans yb3 hb4
   clear zR3 yb3 hb3
   go_wp2_with fail
   refine (zadd_any _ _ _ _ _ _ _ (hN3.below hb4) hN4 (by omega) (by omega)).mono ?_
   rw [hsum.out]
   rintro e w5 ⟨a5,c5,rfl,hN5,hb5⟩
   have zR5:=zR4.below hb5
   have yb5:=below_trans yb4 hb5
   clear zR4 yb4 hb4 hN3 hN4 hb5
   go_wp2_with fail
   first
    |(refine (zneg_any _ _ _ _ (hN5.below (by (repeat' first|(with_reducible first|assumption|apply bR|apply bA|apply bN|apply bD|apply bL|apply bS)|refine bT ?_ (by assumption)|go_size)))).mono ?_
      rintro e w6 ⟨a6,c6,rfl,hN6,hb6⟩
      have hlt5:=zR5.lt
      have zR6:=(zR5.alloc _).below hb6
      have yb6:Below w.heap.size w w6:=below_trans (by (repeat' first|(with_reducible first|assumption|apply bR|apply bA|apply bN|apply bD|apply bL|apply bS)|refine bT ?_ (by assumption)|go_size)) hb6
      have hz:=(ZL.made (w:=w5) (t:=47) (n:=zneg (m:Int)) (v:=.slice a5 (zl (m:Int)).length c5) rfl).below hb6
      have k0:=hz.1
      have k1:=hz.2.1
      have f0:=hz.2.2.1
      have f1:=hz.2.2.2.1
      go_wp2_with fail
      refine Calls.mono (qmake_any _ _ _ _ 53 1074 _ (hN6.set2 hz.2.2.2.2 (by decide) _ _) hma2.out (by omega) ⟨by omega,by omega⟩ (by omega)) ?_
      rintro e w7 ⟨v7,rfl,⟨y,s,b0,d0,rfl,hY,hE,hyA,hs⟩,hb7⟩
      have zR:=(QL.set2far zR6 (by first|omega|(simp;done)|(simp;omega))).below hb7
      have yb:Below w.heap.size w w7:=below_trans ((yb6.setCell (by first|omega|(simp;done)|(simp;omega)) _).setCell (by first|omega|(simp;done)|(simp;omega)) _) hb7
      have HE:=hid (hE.trans (show nrm _ _=fv x by rw [←hfv.out,hde.out];rfl))
      have HYA:=hid hyA
      clear hb7 hE hyA
      obtain ⟨⟨k0,k1,f0,f1,hs2⟩,k2,f2⟩:=zR
      go_wp2_with fail
      refine bodyPost_ret (by simp [results,Tryz.results34,go_sem,k0,k1,k2];try rfl) rfl ?_
      exact ⟨_,rfl,⟨_,_,_,_,rfl,((hY.setCell hs2 (by decide) _ _).setCell (hs2.setCell _ _) (by decide) _ _).setCell ((hs2.setCell _ _).setCell _ _) (by decide) _ _,HE.out,abs_weak HYA.out (by omega),by omega⟩,((yb.setCell (by first|omega|(simp;done)|(simp;omega)) _).setCell (by first|omega|(simp;done)|(simp;omega)) _).setCell (by first|omega|(simp;done)|(simp;omega)) _⟩)
    |(refine Calls.mono (qmake_any _ _ _ _ 53 1074 _ (hN5.below (by (repeat' first|(with_reducible first|assumption|apply bR|apply bA|apply bN|apply bD|apply bL|apply bS)|refine bT ?_ (by assumption)|go_size))) hma.out (by omega) ⟨by omega,by omega⟩ (by omega)) ?_
      rintro e w7 ⟨v7,rfl,⟨y,s,b0,d0,rfl,hY,hE,hyA,hs⟩,hb7⟩
      have zR:=(zR5.alloc _).below hb7
      have yb:Below w.heap.size w w7:=below_trans (by (repeat' first|(with_reducible first|assumption|apply bR|apply bA|apply bN|apply bD|apply bL|apply bS)|refine bT ?_ (by assumption)|go_size)) hb7
      have HE:=hid (hE.trans (show nrm _ _=fv x by rw [←hfv.out,hde.out];rfl))
      have HYA:=hid hyA
      clear hb7 hE hyA
      obtain ⟨⟨k0,k1,f0,f1,hs2⟩,k2,f2⟩:=zR
      go_wp2_with fail
      refine bodyPost_ret (by simp [results,Tryz.results34,go_sem,k0,k1,k2];try rfl) rfl ?_
      exact ⟨_,rfl,⟨_,_,_,_,rfl,((hY.setCell hs2 (by decide) _ _).setCell (hs2.setCell _ _) (by decide) _ _).setCell ((hs2.setCell _ _).setCell _ _) (by decide) _ _,HE.out,abs_weak HYA.out (by omega),by omega⟩,((yb.setCell (by first|omega|(simp;done)|(simp;omega)) _).setCell (by first|omega|(simp;done)|(simp;omega)) _).setCell (by first|omega|(simp;done)|(simp;omega)) _⟩)
theorem qval_any (x:Int) (hx0:0≤x) (hx1:x<18446744073709551616) (w:World):
 Calls Tryz.prog 34 #[.int .u64 x] w fun e w'=>RetQD 3 w (fv x) 1200 1100 e w':=qval_gen 1200 (by omega) x hx0 hx1 w
end Go.Proofs.YtehhegbkahnhgaaGreatDoor
