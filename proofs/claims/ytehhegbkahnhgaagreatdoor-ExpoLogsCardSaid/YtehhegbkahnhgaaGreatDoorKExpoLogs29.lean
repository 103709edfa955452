/- ExpoLogs: what the proof leans on, part 29 (Si1 Gp25). -/
import Derived.Test.YtehhegbkahnhgaaGreatDoorKExpoLogs13
import Derived.Test.YtehhegbkahnhgaaGreatDoorKExpoLogs27
import Derived.Test.YtehhegbkahnhgaaGreatDoorKExpoLogs28
set_option linter.unusedVariables false
set_option linter.unusedSimpArgs false
namespace Go.Ulp
open Go.RowKit
theorem cmp_two (X n:Nat) (m:Int) (h:0≤m+(n:Int)):0<cmpD (nrm 1 m) (nrm (X:Int) (-(n:Int)))↔X<2^(m+(n:Int)).toNat:=by
 rw [←cmp_nrm 1 m (X:Int) (-(n:Int)) (-(n:Int)) (.inl (by omega)) (.inl (Int.le_refl _)),sc_self]
 unfold sc
 rw [Int.one_mul,pw_nat,show m- -(n:Int)=m+(n:Int) by omega]
 generalize 2^(m+(n:Int)).toNat=P
 unfold cmpI
 split
 ·omega
 ·split<;>omega
end Go.Ulp
namespace Go.Proofs.YtehhegbkahnhgaaGreatDoor
open Go.RowKit Go.Ulp
set_option maxHeartbeats 4000000
set_option maxRecDepth 100000
theorem zNneg_any (n:Nat) (h0:0<n) (hn:n≤1000000000) (w:World):
 Calls Tryz.prog 38 #[.int .i64 (-(n:Int))] w fun e w'=>RetZ 3 w (-(n:Int)) e w':=by
 have hneg: -(n:Int)<0:=by omega
 go_enter Tryz.func38,Tryz.ntmps38
 go_wp2_with fail
 go_loopw [0,4] (fun r _ wr=> ∃(rr:Nat) (Q:List Nat) (v:Value),r=.int .i64 (-(rr:Int))∧rr≤n∧dval Q+10000^Q.length*rr=n∧Dec Q∧(rr=0→Trim Q)∧Own (w.heap.size+1+1) 3 .i64 wr v Q∧ZL 47 wr w.heap.size false (.slice none 0 0)∧ZL 47 wr (w.heap.size+1) true v∧Below w.heap.size w wr) (fun r _ _=>(-(intOf r)).toNat)
 case atStart=>exact ⟨n,[],_,rfl,Nat.le_refl _,by simp [dval,val],AllLt.nil,fun _ h=>absurd rfl h,Own.nil,(ZL.made rfl).alloc _,ZL.made (by simp),by (repeat' first|(with_reducible first|apply bR|assumption|apply bN|apply bD|apply bL|apply bS)|go_size)⟩
 case round=>
  obtain ⟨rr,Q,v,rfl,hrn,hv,lQ,hT,hown,zR,zO,hb⟩:=hrel
  have hsz:=zO.lt
  have HV:=hid hv
  clear hv
  obtain ⟨kO0,kO1,fO0,fO1,-⟩:=id zO
  obtain ⟨kR0,kR1,fR0,fR1,hsR⟩:=id zR
  by_cases h0:rr=0
  ·subst h0
   have hval:Q=zl (-(n:Int)):=by
    have:=HV.out
    rw [Nat.mul_zero,Nat.add_zero] at this
    unfold zl;rw [Int.natAbs_neg,Int.natAbs_natCast,←this]
    exact (digs_val 10000 (by omega) Q lQ (hT rfl)).symm
   have hz:=hid (show zneg (-(n:Int))=true by unfold zneg;simp;omega)
   obtain ⟨ao1,cap1,rfl,hN1⟩:=hown.nz
   have HQ:=hid hval
   clear hval hT
   go_wp2_with fail
   refine bodyPost_ret (by simp [results,Tryz.results38,go_sem,kR0,kR1];try rfl) rfl ?_
   refine ⟨ao1,cap1,by rw [hz.out,←HQ.out],?_,(hb.setCell (by simp) _).setCell (by simp) _⟩
   rw [←HQ.out]
   exact (hN1.setCell hsR (by decide) _ _).setCell (hsR.setCell _ _) (by decide) _ _
  ·have hk:Q.length<64:=by
    rcases Nat.lt_or_ge Q.length 64 with h|h
    ·exact h
    ·exfalso
     have h1:10000^Q.length*1≤10000^Q.length*rr:=Nat.mul_le_mul_left _ (by omega)
     have h2:2^64≤10000^Q.length:=Nat.le_trans (Nat.pow_le_pow_left (by omega) 64) (Nat.pow_le_pow_right (by omega) h)
     have h3:=HV.out
     omega
   have hne:(-(rr:Int) !=0)=true:=by simp;omega
   have hmd:(-(rr:Int)).tmod 10000= -((rr%10000:Nat):Int):=by rw [Int.neg_tmod];rfl
   have hdv:(-(rr:Int)).tdiv 10000= -((rr/10000:Nat):Int):=by rw [Int.neg_tdiv];rfl
   have hlm:=Nat.mod_lt rr (show 0<10000 by omega)
   have hld:=Nat.div_le_self rr 10000
   have KEY:=hid (show dval (Q++ [rr%10000])+10000^(Q++ [rr%10000]).length*(rr/10000)=n from by
    have:=HV.out
    have e:=Nat.mod_add_div rr 10000
    have e2:=congrArg (fun z=>10000^Q.length*z) e
    simp only [Nat.mul_add] at e2
    unfold dval at *
    rw [val_snoc,List.length_append,List.length_singleton,Nat.pow_succ,Nat.mul_assoc];omega)
   have HTR:=hid (show rr/10000=0→Trim (Q++ [rr%10000]) from fun h=>by
    intro hn
    rw [List.getLast_append_of_ne_nil _ (by simp)];simp;omega)
   have HLS:=hid (show rr/10000<rr from by omega)
   clear hT
   obtain ⟨r,hr⟩: ∃r,r=rr%10000:=⟨_,rfl⟩
   obtain ⟨q,hq⟩: ∃q,q=rr/10000:=⟨_,rfl⟩
   rw [←hr] at hmd hlm KEY HTR
   rw [←hq] at hdv hld KEY HTR HLS
   clear hr hq
   by_cases hr0: -(r:Int)<0
   ·go_wp2_with (at_builtin;refine wpList_push ei_int (by omega) rfl _ _ rfl (w.heap.size+1+1) Q r _ rfl (Own.alloc hown _) ⟨wr.heap.size,0,none⟩ rfl (cell_push _ _ _ _ _ (by omega)) (by omega) (by simp;omega) ?_;intro v1 w1 hown1 hb1;obtain ⟨ao1,nn1,cap1,rfl⟩:=hown1.slice;obtain ⟨hc1,hf1⟩:=bcellB hb1)
    go_roundw
    case rel=>exact ⟨q,Q++ [r],.slice ao1 nn1 cap1,by go_num,by omega,KEY.out,AllLt.append.2 ⟨lQ,AllLt.cons.2 ⟨hlm,AllLt.nil⟩⟩,HTR.out,
     hown1.set_other _ (by simp) _,((zR.alloc _).belowB hb1 (by omega)).far _ _ (by simp),((zO.alloc _).belowB hb1 (by omega)).set1 _,((hb.trans ((below_alloc wr _).mono hb.size)).trans (hb1.mono (by omega))).setCell (by simp) _⟩
    case measure=>have:=HLS.out;simp [intOf];omega
   ·obtain rfl:r=0:=by omega
    go_wp2_with (at_builtin;refine wpList_push ei_int (by omega) rfl _ _ rfl (w.heap.size+1+1) Q 0 _ rfl (Own.alloc hown _) ⟨wr.heap.size,0,none⟩ rfl (cell_push _ _ _ _ _ (by omega)) (by omega) (by simp;omega) ?_;intro v1 w1 hown1 hb1;obtain ⟨ao1,nn1,cap1,rfl⟩:=hown1.slice;obtain ⟨hc1,hf1⟩:=bcellB hb1)
    go_roundw
    case rel=>exact ⟨q,Q++ [0],.slice ao1 nn1 cap1,by go_num,by omega,KEY.out,AllLt.append.2 ⟨lQ,AllLt.cons.2 ⟨hlm,AllLt.nil⟩⟩,HTR.out,
     hown1.set_other _ (by simp) _,((zR.alloc _).belowB hb1 (by omega)).far _ _ (by simp),((zO.alloc _).belowB hb1 (by omega)).set1 _,((hb.trans ((below_alloc wr _).mono hb.size)).trans (hb1.mono (by omega))).setCell (by simp) _⟩
    case measure=>have:=HLS.out;simp [intOf];omega
theorem zNI (k:Int) (h0: -1000000000≤k) (h1:k≤1000000000) (w:World):Calls Tryz.prog 38 #[.int .i64 k] w (RetZD 3 w k):=by
 rcases Int.lt_or_le k 0 with h|h
 ·obtain ⟨n,hn⟩: ∃n:Nat,k= -(n:Int):=⟨k.natAbs,by omega⟩
  subst hn
  exact (zNneg_any n (by omega) (by omega) w).mono fun _ _ h=>h.zd
 ·exact zND k h (by omega) w
theorem qmake_top (a0:Option Addr) (c0 N s:Nat) (M:Int) (w:World) (h0:Nz 3 w a0 c0 (zl (N:Int))) (hM:M= -(s:Int)) (hl:(zl (N:Int)).length≤1000000) (hs:s≤1000000):
 Calls Tryz.prog 37 #[.agg #[.bool (zneg (N:Int)),.slice a0 (zl (N:Int)).length c0],.int .i64 M] w fun e w'=>RetQ 3 w (N:Int) (s:Int) e w':=by
 rcases Nat.eq_zero_or_pos s with h|h
 ·subst h
  obtain rfl:M=((0:Nat):Int):=by omega
  have h1:=qmake_pos a0 c0 (N:Int) 0 w h0 (by omega) (by omega)
  rw [pw_zero,Int.mul_one] at h1
  exact h1
 ·have h1:=qmake_neg a0 c0 (N:Int) M w h0 (by omega) (by omega)
  rw [show -M=(s:Int) by omega] at h1
  exact h1
theorem qshift_top (a0:Option Addr) (c0 N n s:Nat) (M:Int) (w:World) (h0:Nz 3 w a0 c0 (zl (N:Int))) (hl:(zl (N:Int)).length≤1000000) (hn:n≤200000) (hs:s≤1000000) (hM1:M-(n:Int)= -(s:Int)):
 Calls Tryz.prog 87 #[.agg #[.bool (zneg (N:Int)),.slice a0 (zl (N:Int)).length c0,.int .i64 (n:Int)],.int .i64 M] w fun e w'=>RetQ 3 w (N:Int) (s:Int) e w':=by
 have QM:=hid (fun w h=>qmake_top a0 c0 N s (M-(n:Int)) w h hM1 hl hs)
 have m1: -2000000≤M:=by omega
 have m2:M≤2000000:=by omega
 clear hM1
 go_enter Tryz.func87,Tryz.ntmps87
 go_wp2_with fail
 have zR0:QL 49 ((w.alloc (.cells #[.bool (zneg (N:Int)),.slice a0 (zl (N:Int)).length c0,.int .i64 (n:Int)] 49)).alloc (.cells #[.bool false,.slice none 0 0,.int .i64 0] 49)) (w.heap.size+1) false (.slice none 0 0) 0:=QL.made (by first|omega|(simp;done)|(simp;omega))
 refine (QM.out _ (h0.below (by (repeat' first|(with_reducible first|assumption|apply bR|apply bA|apply bN|apply bD|apply bL|apply bS)|refine bT ?_ (by assumption)|go_size)))).mono ?_
 rintro e w1 ⟨b0,d0,rfl,hY,hb⟩
 have zR:=zR0.below hb
 have yb:Below w.heap.size w w1:=below_trans (by (repeat' first|(with_reducible first|assumption|apply bR|apply bA|apply bN|apply bD|apply bL|apply bS)|refine bT ?_ (by assumption)|go_size)) hb
 clear zR0 hb
 obtain ⟨⟨k0,k1,f0,f1,hs2⟩,k2,f2⟩:=zR
 go_wp2_with fail
 refine bodyPost_ret (by simp [results,Tryz.results87,go_sem,k0,k1,k2];try rfl) rfl ?_
 exact ⟨_,_,rfl,((hY.setCell hs2 (by decide) _ _).setCell (hs2.setCell _ _) (by decide) _ _).setCell ((hs2.setCell _ _).setCell _ _) (by decide) _ _,((yb.setCell (by first|omega|(simp;done)|(simp;omega)) _).setCell (by first|omega|(simp;done)|(simp;omega)) _).setCell (by first|omega|(simp;done)|(simp;omega)) _⟩
theorem topBit2_any (X n:Nat) (a0:Option Addr) (c0:Nat) (w:World) (h0:Nz 3 w a0 c0 (zl (X:Int))) (hX:0<X) (hXA:X<2^400000) (hn:n≤200000):
 Calls Tryz.prog 90 #[.agg #[.bool false,.slice a0 (zl (X:Int)).length c0,.int .i64 (n:Int)]] w fun e w'=>e=.returned (.int .i64 (((bl X-1:Nat):Int)-(n:Int)))∧Below w.heap.size w w':=by
 obtain ⟨A,hA⟩: ∃A,A=400000:=⟨_,rfl⟩
 rw [←hA] at hXA
 have HQ:=hid (show QD 3 w (nrm (X:Int) (-(n:Int))) 400000 200000 (.agg #[.bool false,.slice a0 (zl (X:Int)).length c0,.int .i64 (n:Int)]) from ⟨(X:Int),n,a0,c0,by rw [zneg_nat],h0,rfl,by rw [Int.natAbs_natCast,←hA];exact hXA,hn⟩)
 have H0:=hid h0
 have HSM:=hid (show ∀h:Nat,((2^h:Nat):Int)≤(X:Int)→h<A from fun h hh=>(Nat.pow_lt_pow_iff_right (a:=2) (by omega)).1 (Nat.lt_of_le_of_lt (Int.ofNat_le.1 hh) hXA))
 have HTW:=hid (show ∀m:Int,0≤m+(n:Int)→(0<cmpD (nrm 1 m) (nrm (X:Int) (-(n:Int)))↔X<2^(m+(n:Int)).toNat) from fun m h=>cmp_two X n m h)
 have HEND:=hid (show ∀lo hi:Int,lo+1=hi→ -(n:Int)-1≤lo→(lo= -(n:Int)-1∨2^(lo+(n:Int)).toNat≤X)→X<2^(hi+(n:Int)).toNat→lo=((bl X-1:Nat):Int)-(n:Int) from fun lo hi h1 h2 h3 h4=>by
  rcases h3 with h3|h3
  ·exfalso
   have:(hi+(n:Int)).toNat=0:=by omega
   rw [this,Nat.pow_zero] at h4
   omega
  ·obtain ⟨k,hk⟩: ∃k,k=(lo+(n:Int)).toNat:=⟨_,rfl⟩
   rw [←hk] at h3
   by_cases h5:lo= -(n:Int)-1
   ·have:(hi+(n:Int)).toNat=0:=by omega
    rw [this,Nat.pow_zero] at h4
    omega
   ·have e1:(hi+(n:Int)).toNat=k+1:=by omega
    rw [e1] at h4
    have b1:=(bl_le X (k+1)).2 h4
    have b2: ¬bl X≤k:=fun h=>by have:=(bl_le X k).1 h;omega
    omega)
 have ZP:=hid (fun (h:Nat) w (hh:h≤1000000000)=>zpowD h w hh)
 have ZC:=hid (fun (h:Nat) v u w h1 h2=>zcmpD v u (pw h) (X:Int) w h1 h2)
 have ON:=hid (fun w=>zND 1 (by omega) (by omega) w)
 have QM:=hid (fun a c (m:Int) w (h:Nz 3 w a c (zl 1)) (h1: -1000000≤m) (h2:m≤1000000)=>qmake_any a c 1 m 1 1000000 w h (by decide) (by omega) (by omega) (by omega))
 have QC:=hid (fun (m:Int) v u w h k=>qcmp_any v u (nrm 1 m) (nrm (X:Int) (-(n:Int))) (1+1000000) 1000000 400000 200000 w h k (by omega) (by omega) (by omega) (by omega))
 have zA0:QL 49 (w.alloc (.cells #[.bool false,.slice a0 (zl (X:Int)).length c0,.int .i64 (n:Int)] 49)) w.heap.size false (.slice a0 (zl (X:Int)).length c0) n:=QL.made rfl
 have yb0:=below_alloc w (.cells #[.bool false,.slice a0 (zl (X:Int)).length c0,.int .i64 (n:Int)] 49)
 have HAA:=hid hA
 clear h0 hXA hA hX
 go_enter Tryz.func90,Tryz.ntmps90
 go_upto_region 1 with fail
 refine wp_worldZ (fun WW=>Below w.heap.size w WW∧QL 49 WW w.heap.size false (.slice a0 (zl (X:Int)).length c0) n) ⟨yb0,zA0⟩ ?_
 clear yb0 zA0
 intro W1 ⟨yb1,zA⟩
 obtain ⟨⟨j0,j1,-⟩,j2,-⟩:=id zA
 have HZ:=hid (show ∀w',Below W1.heap.size W1 w'→QL 49 w' w.heap.size false (.slice a0 (zl (X:Int)).length c0) n∧ZV 49 3 w' w.heap.size (X:Int)∧QD 3 w' (nrm (X:Int) (-(n:Int))) 400000 200000 (.agg #[.bool false,.slice a0 (zl (X:Int)).length c0,.int .i64 (n:Int)]) from fun w' hb=>⟨zA.below hb,(zA.below hb).zvN (H0.out.below (below_trans yb1 hb)),HQ.out.below (below_trans yb1 hb)⟩)
 clear HQ H0 zA
 go_wp2_with fail
 clear j0 j1 j2
 go_loopw [4] (fun s4 wr=> ∃h:Nat,s4=.int .i64 (h:Int)∧1≤h∧h≤800000∧Below W1.heap.size W1 wr) (fun s4 _=>800001-(intOf s4).toNat)
 case atStart=>exact ⟨1,rfl,by omega,by omega,Below.refl _ _⟩
 case round=>
 obtain ⟨h,rfl,g1,g2,hb1⟩:=hrel
 obtain ⟨P,hP⟩: ∃P,P=pw h:=⟨_,rfl⟩
 have ZP1:=hid (fun w=>ZP.out h w (by omega))
 have ZC1:=hid (fun v u w h1 h2=>ZC.out h v u w h1 h2)
 rw [←hP] at ZP1 ZC1
 have HP:=hid hP
 obtain ⟨cm,hcm⟩: ∃c,c=cmpI P (X:Int):=⟨_,rfl⟩
 rw [←hcm] at ZC1
 have HCM:=hid hcm
 clear hP hcm
 obtain ⟨zA,zV,-⟩:=HZ.out _ hb1
 go_upto_region 2 with fail
 refine wp_region_grow 6 [10,11,12,13,14,15] [Fact.is (.int .i64 (h:Int)),Fact.z 3 P,Fact.is (.pointer (some ⟨w.heap.size,0,none⟩)),Fact.z 3 ((X:Int)),Fact.is (.int .i64 cm),Fact.is (.bool (decide (cm≤0)))] (by kernel_rfl) (by kernel_rfl) ⟨?o0,?o1,?o2,?o3,?o4,?o5,trivial⟩ ?after
 case o0=>(refine oQ rfl ?_;intro ρ w1 R hcon hfn hρ hb hp hR;have e4:ρ (.tmp 4)=.int .i64 (h:Int):=hρ.tmp 4 rfl;clear hρ hp;unfold OpRun;go_simp;exact hR _ _ (Below.refl _ _) rfl)
 case o1=>(refine oQ rfl ?_;intro ρ w1 R hcon hfn hρ hb hp hR;have e10:ρ (.tmp 10)=_:=hp 0 10 rfl rfl;clear hρ hp;unfold OpRun;go_simp;(refine (ZP1.out _).mono ?_;rintro e wn ⟨v9,rfl,hv9,hbn⟩;exact ⟨_,rfl,hR _ _ hbn hv9⟩))
 case o2=>(refine oQ rfl ?_;intro ρ w1 R hcon hfn hρ hb hp hR;have e1:ρ (.tmp 1)=.pointer (some ⟨w.heap.size,0,none⟩):=hρ.tmp 1 rfl;clear hρ hp;unfold OpRun;go_simp;exact hR _ _ (Below.refl _ _) rfl)
 case o3=>(refine oQ rfl ?_;intro ρ w1 R hcon hfn hρ hb hp hR;have e12:ρ (.tmp 12)=_:=hp 2 12 rfl rfl;obtain ⟨ya9,yc9,yj9,yn9⟩:=ZV.below zV hb;obtain ⟨j90,j91,-⟩:=yj9;clear hρ hp;unfold OpRun;go_simp;exact hR _ _ (Below.refl _ _) ⟨ya9,yc9,rfl,yn9⟩)
 case o4=>(refine oQ rfl ?_;intro ρ w1 R hcon hfn hρ hb hp hR;have f11:=hp 1 11 rfl rfl;have f13:=hp 3 13 rfl rfl;clear hρ hp;unfold OpRun;go_simp;(refine (ZC1.out _ _ _ f11 f13).mono ?_;rintro e wn ⟨rfl,hbn⟩;exact ⟨_,rfl,hR _ _ hbn rfl⟩))
 case o5=>(refine oQ rfl ?_;intro ρ w1 R hcon hfn hρ hb hp hR;have e14:ρ (.tmp 14)=_:=hp 4 14 rfl rfl;clear hρ hp;unfold OpRun;go_simp;exact hR _ _ (Below.refl _ _) rfl)
 case after=>
  intro u wn hb hf
  have e15:u 15=_:=hf 5 15 (by omega) rfl
  clear hf
  simp only [putAll,Act.put,List.setIfInBounds_toArray,List.set_cons_zero,List.set_cons_succ,List.drop_succ_cons,List.drop_zero,List.drop_nil]
  rw [e15]
  have hb2:=below_trans hb1 hb
  clear hb1 hb zA zV
  by_cases hcm:cm≤0
  ·have HLT:=hid (show h<A from HSM.out h (by
    have e1:=HCM.out
    rw [HP.out] at e1
    show pw h≤_
    unfold cmpI at e1
    split at e1
    ·omega
    ·split at e1<;>omega))
   go_wp2_with fail
   go_roundw
   case rel=>exact ⟨h*2,by go_num,by omega,by have:=HLT.out;have:=HAA.out;omega,hb2⟩
   case measure=>simp [intOf];omega
  ·have HHI:=hid (show X<2^(((h:Int)+(n:Int))).toNat from by
    have e1:=HCM.out
    rw [HP.out] at e1
    have e2:(X:Int)<pw h:=by
     unfold cmpI at e1
     split at e1
     ·omega
     ·split at e1<;>omega
    have e3:X<2^h:=Int.ofNat_lt.1 e2
    exact Nat.lt_of_lt_of_le e3 (Nat.pow_le_pow_right (by omega) (by omega)))
   clear HP HCM ZP1 ZC1 ZP ZC HSM
   go_wp2_with fail
   go_loopw [3,4,5] (fun s3 s4 _ wr=> ∃lo hi:Int,s3=.int .i64 lo∧s4=.int .i64 hi∧ -(n:Int)-1≤lo∧lo<hi∧hi≤800000∧(lo= -(n:Int)-1∨2^(lo+(n:Int)).toNat≤X)∧X<2^(hi+(n:Int)).toNat∧Below W1.heap.size W1 wr) (fun s3 s4 _ _=>(intOf s4-intOf s3).toNat)
   case atStart=>exact ⟨-(n:Int)-1,(h:Int),rfl,rfl,by omega,by omega,by omega,.inl rfl,HHI.out,hb2⟩
   case round=>
   clear HHI hb2 g1 g2
   obtain ⟨lo,hi,rfl,rfl,b1,b2,b3,hlo,hhi,hb⟩:=hrel
   have HLO:=hid hlo
   have HHI:=hid hhi
   clear hlo hhi
   by_cases hlt:1<hi-lo
   ·obtain ⟨m,tg,e1,-,e3,e4,e5⟩:=tdiv2 (lo+hi)
    have hm1:lo<m:=by omega
    have hm2:m<hi:=by omega
    have w1: -9223372036854775808≤lo+hi:=by omega
    have w2:lo+hi≤9223372036854775807:=by omega
    have w3: -9223372036854775808≤m:=by omega
    have w4:m≤9223372036854775807:=by omega
    have hne:(m==lo)=false:=beq_eq_false_iff_ne.2 (by omega)
    have BND:=hid (And.intro hm1 hm2)
    have QMm:=hid (fun a c w h=>QM.out a c m w h (by omega) (by omega))
    have QCm:=hid (fun v u w h k=>QC.out m v u w h k)
    have HTm:=hid (HTW.out m (by omega))
    generalize cmpD (nrm 1 m) (nrm (X:Int) (-(n:Int)))=cc at *
    clear e3 e4 e5 hm1 hm2
    go_upto_region 6 with fail
    obtain ⟨zA,-,-⟩:=HZ.out _ hb
    have HZ1:=hid (fun w' hb'=>(HZ.out w' (below_trans hb hb')).2.2)
    clear e1 w1 w2
    have hbq:=hb
    refine wp_region_grow 11 [26,27,28,29,30,31,32,33,34,35,36] [Fact.is (.int .i64 m),Fact.is (.int .i64 lo),Fact.is (.bool false),Fact.is (.bool false),Fact.z 3 1,Fact.is (.int .i64 m),Fact.q 3 (nrm 1 m) (1+1000000) 1000000,Fact.q 3 (nrm (X:Int) (-(n:Int))) 400000 200000,Fact.is (.int .i64 cc),Fact.is (.bool (decide (0<cc))),Fact.is (.bool (decide (0<cc)))] (by kernel_rfl) (by kernel_rfl) ⟨?o0,?o1,?o2,?o3,?o4,?o5,?o6,?o7,?o8,?o9,?o10,trivial⟩ ?after
    case o0=>(refine oQ rfl ?_;intro ρ w1 R hcon hfn hρ hb hp hR;have e5:ρ (.tmp 5)=.int .i64 m:=hρ.tmp 5 rfl;clear hρ hp;unfold OpRun;go_simp;exact hR _ _ (Below.refl _ _) rfl)
    case o1=>(refine oQ rfl ?_;intro ρ w1 R hcon hfn hρ hb hp hR;have e3:ρ (.tmp 3)=.int .i64 lo:=hρ.tmp 3 rfl;clear hρ hp;unfold OpRun;go_simp;exact hR _ _ (Below.refl _ _) rfl)
    case o2=>(refine oQ rfl ?_;intro ρ w1 R hcon hfn hρ hb hp hR;have e26:ρ (.tmp 26)=_:=hp 0 26 rfl rfl;have e27:ρ (.tmp 27)=_:=hp 1 27 rfl rfl;clear hρ hp;unfold OpRun;go_simp;exact hR _ _ (Below.refl _ _) rfl)
    case o3=>(refine oQ rfl ?_;intro ρ w1 R hcon hfn hρ hb hp hR;have e28:ρ (.tmp 28)=_:=hp 2 28 rfl rfl;clear hρ hp;unfold OpRun;go_simp;exact hR _ _ (Below.refl _ _) rfl)
    case o4=>(intro ρ w1 R hρ hb hp hR;have eg:ρ (.tmp 29)=.bool false:=hp 3 29 rfl rfl;refine ⟨fun _=>?_,fun hg=>absurd hg (by simp [guardOf,eg])⟩;clear eg;skip;have hcon:=hρ.con;have hfn:=hρ.fn;clear hρ hp;unfold OpRun;go_simp;(refine (ON.out _).mono ?_;rintro e wn ⟨v9,rfl,hv9,hbn⟩;exact ⟨_,rfl,hR _ _ hbn hv9⟩))
    case o5=>(intro ρ w1 R hρ hb hp hR;have eg:ρ (.tmp 29)=.bool false:=hp 3 29 rfl rfl;refine ⟨fun _=>?_,fun hg=>absurd hg (by simp [guardOf,eg])⟩;clear eg;have e5:ρ (.tmp 5)=.int .i64 m:=hρ.tmp 5 rfl;have hcon:=hρ.con;have hfn:=hρ.fn;clear hρ hp;unfold OpRun;go_simp;exact hR _ _ (Below.refl _ _) rfl)
    case o6=>(intro ρ w1 R hρ hb hp hR;have eg:ρ (.tmp 29)=.bool false:=hp 3 29 rfl rfl;refine ⟨fun _=>?_,fun hg=>absurd hg (by simp [guardOf,eg])⟩;clear eg;have f30:=hp 4 30 rfl rfl;have e31:ρ (.tmp 31)=_:=hp 5 31 rfl rfl;obtain ⟨a30,c30,e30,hz30⟩:=f30;have hcon:=hρ.con;have hfn:=hρ.fn;clear hρ hp;unfold OpRun;go_simp;(skip;refine (QMm.out _ _ _ hz30).mono ?_;rintro e wn ⟨v9,rfl,hv9,hbn⟩;exact ⟨_,rfl,hR _ _ hbn hv9⟩))
    case o7=>(intro ρ w1 R hρ hb hp hR;have eg:ρ (.tmp 29)=.bool false:=hp 3 29 rfl rfl;refine ⟨fun _=>?_,fun hg=>absurd hg (by simp [guardOf,eg])⟩;clear eg;have e1:ρ (.tmp 1)=.pointer (some ⟨w.heap.size,0,none⟩):=hρ.tmp 1 rfl;obtain ⟨⟨j0,j1,-⟩,j2,-⟩:=zA.below hb;have hcon:=hρ.con;have hfn:=hρ.fn;clear hρ hp;unfold OpRun;go_simp;exact hR _ _ (Below.refl _ _) (HZ1.out _ hb))
    case o8=>(intro ρ w1 R hρ hb hp hR;have eg:ρ (.tmp 29)=.bool false:=hp 3 29 rfl rfl;refine ⟨fun _=>?_,fun hg=>absurd hg (by simp [guardOf,eg])⟩;clear eg;have f32:=hp 6 32 rfl rfl;have f33:=hp 7 33 rfl rfl;have hcon:=hρ.con;have hfn:=hρ.fn;clear hρ hp;unfold OpRun;go_simp;(refine (QCm.out _ _ _ f32 f33).mono ?_;rintro e wn ⟨rfl,hbn⟩;exact ⟨_,rfl,hR _ _ hbn rfl⟩))
    case o9=>(intro ρ w1 R hρ hb hp hR;have eg:ρ (.tmp 29)=.bool false:=hp 3 29 rfl rfl;refine ⟨fun _=>?_,fun hg=>absurd hg (by simp [guardOf,eg])⟩;clear eg;have e34:ρ (.tmp 34)=_:=hp 8 34 rfl rfl;have hcon:=hρ.con;have hfn:=hρ.fn;clear hρ hp;unfold OpRun;go_simp;exact hR _ _ (Below.refl _ _) rfl)
    case o10=>(refine oQ rfl ?_;intro ρ w1 R hcon hfn hρ hb hp hR;have e29:ρ (.tmp 29)=_:=hp 3 29 rfl rfl;have e35:ρ (.tmp 35)=_:=hp 9 35 rfl rfl;clear hρ hp;unfold OpRun;go_simp;exact hR _ _ (Below.refl _ _) rfl)
    case after=>
     intro u wn hb hf
     have e36:u 36=_:=hf 10 36 (by omega) rfl
     clear hf
     simp only [putAll,Act.put,List.setIfInBounds_toArray,List.set_cons_zero,List.set_cons_succ,List.drop_succ_cons,List.drop_zero,List.drop_nil]
     rw [e36]
     have hb3:=below_trans hbq hb
     by_cases hcc:0<cc
     ·have HNX:=hid (HTm.out.1 hcc)
      go_wp2_with fail
      go_roundw
      case rel=>exact ⟨lo,m,rfl,rfl,b1,BND.out.1,by have:=BND.out;omega,HLO.out,HNX.out,hb3⟩
      case measure=>simp [intOf];have:=BND.out;omega
     ·have HNX:=hid (show 2^(m+(n:Int)).toNat≤X from Nat.le_of_not_lt fun h=>hcc (HTm.out.2 h))
      go_wp2_with fail
      go_roundw
      case rel=>exact ⟨m,hi,rfl,rfl,by have:=BND.out;omega,BND.out.2,b3,.inr HNX.out,HHI.out,hb3⟩
      case measure=>simp [intOf];have:=BND.out;omega
   ·have EE:=hid (HEND.out lo hi (by omega) b1 HLO.out HHI.out)
    have yb2:=below_trans yb1 hb
    go_wp2_with fail
    go_ret
    exact ⟨by rw [←EE.out];rfl,yb2⟩
end Go.Proofs.YtehhegbkahnhgaaGreatDoor
namespace Go.Ulp
theorem ref_top (m n X s:Nat) (e:Int) (hv:((2^n:Nat):Rat)*dyQ m e=(X:Rat)) (h0:0<m) (hm:m<2^1280) (he: -3000≤e∧e≤3000) (h1:2^s≤X) (h2:X<2^(s+1)):
 ((s:Int)-(n:Int)).natAbs≤4300∧((2^s:Nat):Rat)*dyQ m (e-((s:Int)-(n:Int)))=(X:Rat):=by
 obtain ⟨b,hb⟩: ∃b,b=1280:=⟨_,rfl⟩
 rw [←hb] at hm
 constructor
 ·have key:X*2^(-e).toNat=2^n*(m*2^e.toNat):=by
   apply Rat.natCast_inj.1
   rw [cast_mul,cast_mul,cast_mul,←hv]
   have a:=dyQ_eq m e
   rw [two_cast (-e).toNat,two_cast e.toNat]
   generalize dyQ m e=q at *
   generalize ((2^n:Nat):Rat)=P at *
   grind
  have u1:2^(s+(-e).toNat)<2^(n+(b+e.toNat)):=by
   rw [Nat.pow_add,Nat.pow_add,Nat.pow_add]
   refine Nat.lt_of_le_of_lt (Nat.mul_le_mul_right _ h1) ?_
   rw [key]
   exact (Nat.mul_lt_mul_left (Nat.two_pow_pos n)).2 ((Nat.mul_lt_mul_right (Nat.two_pow_pos _)).2 hm)
  have u2:2^(n+e.toNat)<2^(s+1+(-e).toNat):=by
   rw [Nat.pow_add,Nat.pow_add 2 (s+1)]
   refine Nat.lt_of_le_of_lt ?_ ((Nat.mul_lt_mul_right (Nat.two_pow_pos _)).2 h2)
   rw [key]
   exact Nat.mul_le_mul_left _ (Nat.le_mul_of_pos_left _ h0)
  have v1:=(Nat.pow_lt_pow_iff_right (a:=2) (by omega)).1 u1
  have v2:=(Nat.pow_lt_pow_iff_right (a:=2) (by omega)).1 u2
  omega
 ·rw [show e-((s:Int)-(n:Int))=e+((n:Int)-(s:Int)) by omega,dyQ_split,←hv]
  have a:=dyQ_eq 1 ((n:Int)-(s:Int))
  have k:((2^s:Nat):Rat)*dyQ 1 ((n:Int)-(s:Int))=((2^n:Nat):Rat):=by
   rw [two_cast,two_cast]
   have o1:((1:Nat):Rat)=1:=rfl
   rw [o1,Rat.one_mul] at a
   rcases Nat.le_total s n with c|c
   ·have c1:(-((n:Int)-(s:Int))).toNat=0:=by omega
    have c2:((n:Int)-(s:Int)).toNat=n-s:=by omega
    rw [c1,c2,Rat.pow_zero,Rat.one_mul] at a
    rw [a,←pow2_add,show s+(n-s)=n by omega]
   ·have c1:(-((n:Int)-(s:Int))).toNat=s-n:=by omega
    have c2:((n:Int)-(s:Int)).toNat=0:=by omega
    rw [c1,c2,Rat.pow_zero] at a
    have c3:(2:Rat)^s=2^n*2^(s-n):=by rw [←pow2_add,show n+(s-n)=s by omega]
    rw [c3,Rat.mul_assoc,a,Rat.mul_one]
  rw [←k]
  grind
def lnrP (X s:Nat) (k:Int) (t kA k1 k2:Nat):Int×Int:=addI (sgP (rtP (frB (X-2^s) (X+2^s) (10^t)) (10^t) kA) false) (sgP (mlP k.natAbs (plP (rtP (frB 1 7 (10^t)) (10^t) k1) (rtP (frB 1 5 (10^t)) (10^t) k2))) (decide (k<0)))
theorem RtOK.top {num den t k:Nat} (h:RtOK num den t k):(rtP (frB num den (10^t)) (10^t) k).1≤10^(t+13)∧(rtP (frB num den (10^t)) (10^t) k).2≤10^(t+13):=by
 have k1:=h.k1
 have t1:=h.t1
 obtain ⟨a,b⟩:=h.sm k (by omega)
 have e:10^(t+13)=10^(t+12)*10:=Nat.pow_succ 10 (t+12)
 have f:10^12≤10^(t+12):=Nat.pow_le_pow_right (by omega) (by omega)
 show 2*_≤_∧2*(_+9)≤_
 omega
theorem lnrP_top {X s t kA k1 k2:Nat} {k:Int} (hk:k.natAbs≤4300) (hA:RtOK (X-2^s) (X+2^s) t kA) (h7:RtOK 1 7 t k1) (h5:RtOK 1 5 t k2):
 (lnrP X s k t kA k1 k2).1.natAbs≤10^(t+1650)∧(lnrP X s k t kA k1 k2).2.natAbs≤10^(t+1650)∧(plP (rtP (frB 1 7 (10^t)) (10^t) k1) (rtP (frB 1 5 (10^t)) (10^t) k2)).1≤10^(t+20)∧(plP (rtP (frB 1 7 (10^t)) (10^t) k1) (rtP (frB 1 5 (10^t)) (10^t) k2)).2≤10^(t+20)∧(mlP k.natAbs (plP (rtP (frB 1 7 (10^t)) (10^t) k1) (rtP (frB 1 5 (10^t)) (10^t) k2))).1≤10^(t+30)∧(mlP k.natAbs (plP (rtP (frB 1 7 (10^t)) (10^t) k1) (rtP (frB 1 5 (10^t)) (10^t) k2))).2≤10^(t+30):=by
 obtain ⟨a1,a2⟩:=hA.top
 obtain ⟨b1,b2⟩:=h7.top
 obtain ⟨c1,c2⟩:=h5.top
 unfold lnrP
 generalize rtP (frB (X-2^s) (X+2^s) (10^t)) (10^t) kA=A at *
 generalize rtP (frB 1 7 (10^t)) (10^t) k1=B at *
 generalize rtP (frB 1 5 (10^t)) (10^t) k2=C at *
 have e20:10^(t+20)=10^(t+13)*10000000:=by rw [show t+20=t+13+7 by omega,Nat.pow_add]
 have e30:10^(t+30)=10^(t+13)*100000000000000000:=by rw [show t+30=t+13+17 by omega,Nat.pow_add]
 have e31:10^(t+31)≤10^(t+1650):=Nat.pow_le_pow_right (by omega) (by omega)
 have e32:10^(t+31)=10^(t+30)*10:=Nat.pow_succ 10 (t+30)
 have p1:(plP B C).1≤10^(t+20):=by show B.1+C.1≤_;omega
 have p2:(plP B C).2≤10^(t+20):=by show B.2+C.2≤_;omega
 have q1:(mlP k.natAbs (plP B C)).1≤10^(t+30):=by
  show (B.1+C.1)*k.natAbs≤_
  have:(B.1+C.1)*k.natAbs≤(10^(t+13)*2)*4300:=Nat.mul_le_mul (by omega) hk
  omega
 have q2:(mlP k.natAbs (plP B C)).2≤10^(t+30):=by
  show (B.2+C.2)*k.natAbs≤_
  have:(B.2+C.2)*k.natAbs≤(10^(t+13)*2)*4300:=Nat.mul_le_mul (by omega) hk
  omega
 refine ⟨?_,?_,p1,p2,q1,q2⟩
 ·generalize mlP k.natAbs (plP B C)=M at *
  show ((A.1:Int)+(sgP M (decide (k<0))).1).natAbs≤_
  unfold sgP
  split<;>simp only<;>omega
 ·generalize mlP k.natAbs (plP B C)=M at *
  show ((A.2:Int)+(sgP M (decide (k<0))).2).natAbs≤_
  unfold sgP
  split<;>simp only<;>omega
theorem lnr_ok {m n X s t kA k1 k2:Nat} {e:Int} (hv:((2^n:Nat):Rat)*dyQ m e=(X:Rat)) (h0:0<m) (hm:m<2^1280) (he: -3000≤e∧e≤3000) (h1:2^s≤X) (h2:X<2^(s+1))
 (hA:RtOK (X-2^s) (X+2^s) t kA) (h7:RtOK 1 7 t k1) (h5:RtOK 1 5 t k2):LnOK m e (10^t) 100 (lnrP X s ((s:Int)-(n:Int)) t kA k1 k2):=by
 obtain ⟨a,b⟩:=ref_top m n X s e hv h0 hm he h1 h2
 have t0:=hA.t0
 have t1:=hA.t1
 have l1:=hA.k1
 have l2:=h7.k1
 have l3:=h5.k1
 exact ref_ok m e ((s:Int)-(n:Int)) X (2^s) (10^t) kA k1 k2 (Nat.two_pow_pos s) b h1 (by rw [Nat.pow_succ] at h2;omega) (ten12' t0) (even_ten (by omega)) (by omega) hA.e1 h7.e1 h5.e1 (by omega) (by omega) (by omega)
end Go.Ulp
