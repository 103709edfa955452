/- ExpoLogs: what the proof leans on, part 26 (Eh3 Rb0). -/
import Derived.Test.YtehhegbkahnhgaaGreatDoorKExpoLogs13
import Derived.Test.YtehhegbkahnhgaaGreatDoorKExpoLogs15
import Derived.Test.YtehhegbkahnhgaaGreatDoorKExpoLogs23
import Derived.Test.YtehhegbkahnhgaaGreatDoorKExpoLogs24
import Derived.Test.YtehhegbkahnhgaaGreatDoorKExpoLogs25
set_option linter.unusedVariables false
set_option linter.unusedSimpArgs false
namespace Go.Ulp
open Go.RowKit
def topD (D:Dy):Int:=(bl D.1.natAbs:Int)+D.2-1
def bsX (D:Dy) (side mode:Int):Int:=numX (besNeg (decide (D.1<0)) D.1.natAbs side) (besM (decide (D.1<0)) D.1.natAbs side) (besE D.1.natAbs D.2 side) mode
def bsC (D:Dy) (side mode:Int):Bool:=numC (besNeg (decide (D.1<0)) D.1.natAbs side) (besM (decide (D.1<0)) D.1.natAbs side) (besE D.1.natAbs D.2 side) mode
theorem fv_m1:fv 13830554455654793216=nrm (-1) 0:=by
 have h:=nrm_scale (-1) (-52) 52
 rw [show (-1:Int)*pw 52= -4503599627370496 by decide] at h
 exact h
theorem lp_parts (x:Int) (h0:0≤x) (h1:x<18446744073709551616) (hgt:x<13830554455654793216) (hc4:classOf x<4) (hc1:classOf x≠1) (htop: -70≤topD (fv x)) (z:Nat) (hz:z=122):
 ∃K:Int,fv x=nrm K (-(z:Int))∧K≠0∧ -pw z<K∧K.natAbs<2^1199∧addD (fv x) (nrm 1 0)=nrm (K+pw z) (-(z:Int)):=by
 obtain ⟨-,b1,b2,b3⟩:=fv_bd x h0 h1
 have hbl:=(bl_le _ _).2 b1
 unfold topD at htop
 have hI:IsN (fv x):=nrm_isN _ _
 have e0:=nrm_of_isN (fv x) hI
 have s1:=nrm_add (fv x).1 (fv x).2 1 0 (-(z:Int)) (.inl (by omega)) (.inl (by omega))
 rw [e0] at s1
 have c1:=cmp_nrm (fv x).1 (fv x).2 (-1) 0 (-(z:Int)) (.inl (by omega)) (.inl (by omega))
 rw [e0,←fv_m1,cmp_fv x _ h0 h1 (by omega) (by omega)] at c1
 have one:sc 1 0 (-(z:Int))=pw z:=by
  unfold sc
  rw [Int.one_mul,show ((0:Int)- -(z:Int)).toNat=z by omega]
 have mone:sc (-1) 0 (-(z:Int))= -pw z:=by
  unfold sc
  rw [Int.neg_mul,Int.one_mul,show ((0:Int)- -(z:Int)).toNat=z by omega]
 rw [one] at s1
 rw [mone] at c1
 have s2:=nrm_add (fv x).1 (fv x).2 0 0 (-(z:Int)) (.inl (by omega)) (.inr rfl)
 refine ⟨sc (fv x).1 (fv x).2 (-(z:Int)),?_,?_,?_,?_,s1.symm⟩
 ·unfold sc
  rw [nrm_scale,show -(z:Int)+(((fv x).2- -(z:Int)).toNat:Int)=(fv x).2 by omega,e0]
 ·intro h
  unfold sc at h
  have hnz:(fv x).1≠0:=by
   intro h2
   have h3:=fv_sgn9 x h0 h1
   rw [h2] at h3
   have h4:cmpI (rankOf x) 0=0:=by rw [←h3];decide
   have h5:=(cmpI_eq_zero _ _).1 h4
   have h6:absOf x≠0:=fun h=>hc1 ((class_zer x h0 h1).2 h)
   unfold rankOf at h5
   unfold absOf at h6
   split at h5<;>omega
  rcases Int.mul_eq_zero.1 h with h2|h2
  ·exact hnz h2
  ·have:=pw_pos ((fv x).2- -(z:Int)).toNat;omega
 ·have hr:rankOf 13830554455654793216<rankOf x:=by
   unfold rankOf
   rw [if_pos (by omega)]
   split<;>omega
  have:0<cmpI (sc (fv x).1 (fv x).2 (-(z:Int))) (-pw z):=by rw [c1];exact (cmpI_gt _ _).2 hr
  exact (cmpI_gt _ _).1 this
 ·unfold sc
  rw [natAbs_mul_pw]
  obtain ⟨q,hq⟩: ∃q,q=1199:=⟨_,rfl⟩
  rw [←hq]
  have h3:(fv x).1.natAbs*2^((fv x).2- -(z:Int)).toNat<2^53*2^((fv x).2- -(z:Int)).toNat:=(Nat.mul_lt_mul_right (Nat.two_pow_pos _)).2 b1
  refine Nat.lt_of_lt_of_le h3 ?_
  rw [←Nat.pow_add]
  exact Nat.pow_le_pow_right (by omega) (by omega)
theorem lp_ok (x:Int) (h0:0≤x) (h1:x<18446744073709551616) (hgt:x<13830554455654793216) (hc4:classOf x<4) (hc1:classOf x≠1) (htop: -70≤topD (fv x)):
 0<(addD (fv x) (nrm 1 0)).1∧(addD (fv x) (nrm 1 0)).1.natAbs<2^1280∧(-3000≤(addD (fv x) (nrm 1 0)).2∧(addD (fv x) (nrm 1 0)).2≤3000)∧dyQ (addD (fv x) (nrm 1 0)).1.natAbs (addD (fv x) (nrm 1 0)).2≠1:=by
 obtain ⟨z,hz⟩: ∃z,z=122:=⟨_,rfl⟩
 obtain ⟨K,k1,k2,k3,k4,k5⟩:=lp_parts x h0 h1 hgt hc4 hc1 htop z hz
 have hp:=pw_pos z
 have hpos:0<(addD (fv x) (nrm 1 0)).1:=by
  rw [k5]
  have:=sgn_nrm (K+pw z) (-(z:Int))
  unfold sgn at this
  exact (cmpI_gt _ _).1 (by rw [this];exact (cmpI_gt _ _).2 (by omega))
 obtain ⟨q,hq⟩: ∃q,q=1200:=⟨_,rfl⟩
 have hK:(K+pw z).natAbs<2^q:=by
  obtain ⟨y,hy⟩: ∃y,y=1199:=⟨_,rfl⟩
  rw [←hy] at k4
  have e1:2^q=2^y*2:=by rw [show q=y+1 by omega,Nat.pow_succ]
  have e2:(pw z).natAbs≤2^y:=by
   rw [pw_nat,Int.natAbs_natCast]
   exact Nat.pow_le_pow_right (by omega) (by omega)
  omega
 obtain ⟨g1,g2⟩:=nrm_bd (K+pw z) (-(z:Int)) q hK
 rw [←k5] at g1 g2
 refine ⟨hpos,?_,by omega,?_⟩
 ·obtain ⟨y,hy⟩: ∃y,y=1280:=⟨_,rfl⟩
  rw [←hy]
  exact Nat.lt_of_lt_of_le g1 (Nat.pow_le_pow_right (by omega) (by omega))
 ·refine dq_ne1 (by rw [k5];exact nrm_isN _ _) hpos (fun h=>k2 ?_)
  have h2:=cmpD_eq _ _ (by rw [k5];exact nrm_isN _ _) (nrm_isN _ _) h
  rw [k5,show nrm 1 0=nrm (1*pw z) (-(z:Int)) by rw [nrm_scale];congr 1;omega] at h2
  have:=nrm_inj9 h2
  omega
def LpSaid (x mode X:Int) (ch:Bool):Prop:=
 if classOf x=5∨13830554455654793216<x then X=9221120237041090560∧ch=false else if x=13830554455654793216 then X=18442240474082181120∧ch=false else if classOf x=1∨x=9218868437227405312 then X=x∧ch=false else if topD (fv x)< -60 then X=bsX (fv x) (-1) mode∧ch=bsC (fv x) (-1) mode else ch=true∧LnR (addD (fv x) (nrm 1 0)).1.natAbs (addD (fv x) (nrm 1 0)).2 mode X
theorem LpSaid.uniq {x mode X Y:Int} {c d:Bool} (h:LpSaid x mode X c) (k:LpSaid x mode Y d):X=Y∧c=d:=by
 unfold LpSaid at h k
 split at h
 ·rename_i h1;rw [if_pos h1] at k;exact ⟨h.1.trans k.1.symm,h.2.trans k.2.symm⟩
 ·rename_i h1;rw [if_neg h1] at k
  split at h
  ·rename_i h1;rw [if_pos h1] at k;exact ⟨h.1.trans k.1.symm,h.2.trans k.2.symm⟩
  ·rename_i h1;rw [if_neg h1] at k
   split at h
   ·rename_i h1;rw [if_pos h1] at k;exact ⟨h.1.trans k.1.symm,h.2.trans k.2.symm⟩
   ·rename_i h1;rw [if_neg h1] at k
    split at h
    ·rename_i h1;rw [if_pos h1] at k;exact ⟨h.1.trans k.1.symm,h.2.trans k.2.symm⟩
    ·rename_i h1;rw [if_neg h1] at k;exact ⟨h.2.uniq k.2,h.1.trans k.1.symm⟩
theorem bes_bd9 (n:Bool) (M:Nat) (e side:Int) (hM:M<2^53) (he: -2000≤e∧e≤2000) (hs:side= -1∨side=1):(limbs (besM n M side)).length≤10∧(-5000≤besE M e side∧besE M e side≤5000)∧(besM n M side=0→besE M e side=0):=by
 have hs0:side≠0:=by omega
 refine ⟨?_,?_,?_⟩
 ·refine len_le (k:=118) ?_ (by omega)
  unfold besM
  rw [if_neg hs0]
  split
  ·exact Nat.one_le_two_pow
  ·have h8:M*2^64+1≤2^118:=by
    have:M*2^64≤2^53*2^64:=Nat.mul_le_mul_right _ (Nat.le_of_lt hM)
    have e2:(2:Nat)^53*2^64+1≤2^118:=by decide
    exact Nat.le_trans (Nat.succ_le_succ this) e2
   generalize M*2^64=y at *
   generalize 2^118=u at *
   split<;>omega
 ·unfold besE
  rw [if_neg hs0]
  split<;>omega
 ·unfold besM
  rw [if_neg hs0]
  split
  ·intro h;omega
  ·rename_i h
   have:0<M*2^64:=Nat.mul_pos (by omega) (by decide)
   have e9:M*2^64≠1:=by omega
   split<;>intro h2<;>omega
def Fact.lnx (m:Nat) (e mode:Int):Fact:=⟨fun v _=> ∃X,LnR m e mode X∧v=.int .u64 X,fun _ _ _ h _=>h⟩
def Fact.ln (m:Nat) (e mode:Int):Fact:=⟨fun v _=> ∃X,LnR m e mode X∧v=.tuple #[.int .u64 X,.bool true,.int .i64 0],fun _ _ _ h _=>h⟩
end Go.Ulp
namespace Go.Proofs.YtehhegbkahnhgaaGreatDoor
open Go.RowKit Go.Ulp
set_option maxHeartbeats 4000000
set_option maxRecDepth 100000
theorem one9_any (w:World) (hT:Tab 0 w):Calls Tryz.prog 25 #[] w (RetVD w (nrm 1 0)):=by
 obtain ⟨L1,hL1⟩: ∃L,L=limbs 1:=⟨_,rfl⟩
 have OF:=hid (show ∀w,Calls Tryz.prog 66 #[.int .u64 1] w fun e w'=> ∃a c,e=.returned (.slice a L1.length c)∧Ns .u32 w' a c L1∧Below w.heap.size w w' from fun w=>by rw [hL1];exact (natOf_any 1 (by omega) w).mono (fun _ _ h=>by obtain ⟨a,h1,h2,h3⟩:=h;exact ⟨a,_,h1,h2,h3⟩))
 have NO:=hid (show ∀a c w,Ns .u32 w a c L1→Tab 0 w→Calls Tryz.prog 65 #[.bool false,.slice a L1.length c,.int .i64 0] w (RetVD w (nrm 1 0)) from fun a c w h t=>by rw [hL1] at h ⊢;exact normD_any false a c 1 0 w h (by decide) (by omega) t)
 clear hL1
 have yb:=below_alloc w (.cells #[.bool false,.slice none 0 0,.int .i64 0] 38)
 have zR:QL 38 (w.alloc (.cells #[.bool false,.slice none 0 0,.int .i64 0] 38)) w.heap.size false (.slice none 0 0) 0:=QL.made rfl
 have HT:=hid (hT.below yb)
 clear hT
 go_enter Tryz.func25,Tryz.ntmps25
 go_wp2_with (go_at_call 66;(with_reducible refine (OF.out _).mono ?_);rintro en w1 ⟨a1,c1,rfl,n1,hb1⟩)
 go_wp2_with ((go_at_call 65;(with_reducible refine (NO.out _ _ _ n1 (HT.out.below hb1)).mono ?_);rintro en w2 ⟨v2,rfl,⟨a2,c2,rfl,n2⟩,hb2⟩;have zR2:=(zR.below hb1).below hb2;obtain ⟨⟨k0,k1,f0,f1,hs2⟩,k2,f2⟩:=id zR2))
 refine bodyPost_ret (by simp [results,Tryz.results25,go_sem,k0,k1,k2];try rfl) rfl ?_
 exact ⟨_,rfl,⟨a2,c2,rfl,n2.set3 zR2 (by intro x h;cases h) _ _ _⟩,Go.Ulp.Below.put3 (below_trans (below_trans yb hb1) hb2) (Nat.le_refl _) _ _ _⟩
theorem top9_any (v:Value) (D:Dy) (w:World) (hv:VD w D v) (hl:(limbs D.1.natAbs).length≤10000) (he: -100000≤D.2∧D.2≤100000):Calls Tryz.prog 21 #[v] w fun e w'=>e=.returned (.int .i64 (topD D))∧Below w.heap.size w w':=by
 obtain ⟨a,c,rfl,h0⟩:=hv
 have LE:=hid (fun w h=>natLen_any a c D.1.natAbs w h (by omega))
 have H:=hid h0
 have hb:=bl_len D.1.natAbs 10000 hl
 obtain ⟨b,hbb⟩: ∃b,b=bl D.1.natAbs:=⟨_,rfl⟩
 have HE:=hid (show topD D=(b:Int)+D.2-1 by unfold topD;rw [hbb])
 rw [←hbb] at LE hb
 have zA:QL 38 (w.alloc (.cells #[.bool (decide (D.1<0)),.slice a (limbs D.1.natAbs).length c,.int .i64 D.2] 38)) w.heap.size (decide (D.1<0)) (.slice a (limbs D.1.natAbs).length c) D.2:=QL.made rfl
 have yb0:=below_alloc w (.cells #[.bool (decide (D.1<0)),.slice a (limbs D.1.natAbs).length c,.int .i64 D.2] 38)
 have hw1:IntKind.i64.wrap ((b:Int)+D.2)=(b:Int)+D.2:=IntWalk.i64_in _ (by omega)
 have hw2:IntKind.i64.wrap ((b:Int)+D.2-1)=(b:Int)+D.2-1:=IntWalk.i64_in _ (by omega)
 clear h0 hl he hb hbb
 rw [HE.out]
 go_enter Tryz.func21,Tryz.ntmps21
 go_upto_region 1 with fail
 refine wp_region_grow 8 [3,4,5,6,7,8,9,2] [Fact.is (.pointer (some ⟨w.heap.size,1,none⟩)),Fact.is (.slice a (limbs D.1.natAbs).length c),Fact.is (.int .i64 (b:Int)),Fact.is (.pointer (some ⟨w.heap.size,2,none⟩)),Fact.is (.int .i64 D.2),Fact.is (.int .i64 ((b:Int)+D.2)),Fact.is (.int .i64 ((b:Int)+D.2-1)),Fact.is (.int .i64 ((b:Int)+D.2-1))] (by kernel_rfl) (by kernel_rfl) ⟨?o0,?o1,?o2,?o3,?o4,?o5,?o6,?o7,trivial⟩ ?after
 case o0=>(refine oQ rfl ?_;intro ρ w1 R hcon hfn hρ hb hp hR;have e1:ρ (.tmp 1)=.pointer (some ⟨w.heap.size,0,none⟩):=hρ.tmp 1 rfl;clear hρ hp;unfold OpRun;go_simp;exact hR _ _ (Below.refl _ _) rfl)
 case o1=>(refine oQ rfl ?_;intro ρ w1 R hcon hfn hρ hb hp hR;have e3:ρ (.tmp 3)=_:=hp 0 3 rfl rfl;obtain ⟨⟨j0,j1,-,-,-⟩,j2,-⟩:=zA.below hb;clear hρ hp;unfold OpRun;go_simp;exact hR _ _ (Below.refl _ _) rfl)
 case o2=>(refine oQ rfl ?_;intro ρ w1 R hcon hfn hρ hb hp hR;have e4:ρ (.tmp 4)=_:=hp 1 4 rfl rfl;clear hρ hp;unfold OpRun;go_simp;(refine (LE.out _ (H.out.below (below_trans yb0 hb))).mono ?_;rintro e wn ⟨rfl,rfl⟩;exact ⟨_,rfl,hR _ _ (Below.refl _ _) rfl⟩))
 case o3=>(refine oQ rfl ?_;intro ρ w1 R hcon hfn hρ hb hp hR;have e1:ρ (.tmp 1)=.pointer (some ⟨w.heap.size,0,none⟩):=hρ.tmp 1 rfl;clear hρ hp;unfold OpRun;go_simp;exact hR _ _ (Below.refl _ _) rfl)
 case o4=>(refine oQ rfl ?_;intro ρ w1 R hcon hfn hρ hb hp hR;have e6:ρ (.tmp 6)=_:=hp 3 6 rfl rfl;obtain ⟨⟨j0,j1,-,-,-⟩,j2,-⟩:=zA.below hb;clear hρ hp;unfold OpRun;go_simp;exact hR _ _ (Below.refl _ _) rfl)
 case o5=>(refine oQ rfl ?_;intro ρ w1 R hcon hfn hρ hb hp hR;have e5:ρ (.tmp 5)=_:=hp 2 5 rfl rfl;have e7:ρ (.tmp 7)=_:=hp 4 7 rfl rfl;clear hρ hp;unfold OpRun;go_simp;exact hR _ _ (Below.refl _ _) rfl)
 case o6=>(refine oQ rfl ?_;intro ρ w1 R hcon hfn hρ hb hp hR;have e8:ρ (.tmp 8)=_:=hp 5 8 rfl rfl;clear hρ hp;unfold OpRun;go_simp;exact hR _ _ (Below.refl _ _) rfl)
 case o7=>(refine oQ rfl ?_;intro ρ w1 R hcon hfn hρ hb hp hR;have e9:ρ (.tmp 9)=_:=hp 6 9 rfl rfl;clear hρ hp;unfold OpRun;go_simp;exact hR _ _ (Below.refl _ _) rfl)
 case after=>
  intro u wn hb hf
  have e2:u 2=_:=hf 7 2 (by omega) rfl
  clear hf
  simp only [putAll,Act.put,List.setIfInBounds_toArray,List.set_cons_zero,List.set_cons_succ,List.drop_succ_cons,List.drop_zero,List.drop_nil]
  rw [e2]
  go_wp2_with fail
  refine bodyPost_ret (by simp [results,Tryz.results21,go_sem];try rfl) rfl ?_
  exact ⟨rfl,below_trans yb0 hb⟩
theorem num9_any (n:Bool) (a:Option Addr) (c m:Nat) (e mode:Int) (w:World) (h0:Ns .u32 w a c (limbs m)) (hm:(limbs m).length≤4294967296) (he: -100000000000≤e∧e≤100000000000) (hz:m=0→e=0):
 Calls Tryz.prog 22 #[.agg #[.bool n,.slice a (limbs m).length c,.int .i64 e],.int .i64 mode] w (RetX3 w (numX n m e mode) (numC n m e mode) 0):=by
 have NU:=hid (fun w h=>number_any n a c m e mode w h hm he hz)
 have yb:=below_alloc w (.cells #[.bool n,.slice a (limbs m).length c,.int .i64 e] 38)
 have zA:QL 38 (w.alloc (.cells #[.bool n,.slice a (limbs m).length c,.int .i64 e] 38)) w.heap.size n (.slice a (limbs m).length c) e:=QL.made rfl
 obtain ⟨⟨j0,j1,-⟩,j2,-⟩:=id zA
 have H:=hid (h0.below yb)
 clear h0 hm he hz
 generalize numX n m e mode=X at *
 generalize numC n m e mode=C at *
 go_enter Tryz.func22,Tryz.ntmps22
 go_wp2_with (go_at_call 68;(with_reducible refine (NU.out _ H.out).mono ?_);rintro en w1 ⟨rfl,hb1⟩)
 refine bodyPost_ret (by simp [results,Tryz.results22,go_sem];try rfl) rfl ?_
 exact ⟨rfl,below_trans yb hb1⟩
theorem expoLog1p_any (x:Int) (h0:0≤x) (h1:x<18446744073709551616) (mode:Int) (w:World) (hT:Tab 0 w):
 Calls Tryz.prog 6 #[.int .u64 x,.int .i64 mode] w (RetE9 w mode (LpSaid x mode)):=by
 have KN:=hid (fun w=>known_any mode w)
 have CX:=hid (fun w=>class_any x h0 h1 w)
 cases hk:knownB mode
 ·rw [hk] at KN
  have HN:=hid (show ∀(en:Ending) (w':World),RetX3 w 0 false 1 en w'→RetE9 w mode (LpSaid x mode) en w' from fun en w' h=>RetE9.no hk h)
  clear hk hT
  go_enter Tryz.func6,Tryz.ntmps6
  go_wp2_with (go_at_call 17;(with_reducible refine (KN.out _).mono ?_);rintro en w1 ⟨rfl,rfl⟩)
  refine bodyPost_ret (by simp [results,Tryz.results6,go_sem];try rfl) rfl ?_
  exact HN.out _ _ ⟨rfl,Below.refl _ _⟩
 ·rw [hk] at KN
  have HY:=hid (fun (en:Ending) (w':World) (X:Int) (ch:Bool) (hs:LpSaid x mode X ch) (h:RetX3 w X ch 0 en w')=>RetE9.yes hk hs h)
  have VX:=hid (fun w t=>value_any x h0 h1 w t)
  have HT:=hid hT
  by_cases c5:classOf x=5
  ·have HS:=hid (show ∀X ch,LpSaid x mode X ch=(X=9221120237041090560∧ch=false) from fun X ch=>by unfold LpSaid;rw [if_pos (.inl c5)])
   rw [c5] at CX
   clear c5 hk hT VX
   go_enter Tryz.func6,Tryz.ntmps6
   go_wp2_with (first
    |(go_at_call 17;(with_reducible refine (KN.out _).mono ?_);rintro en w1 ⟨rfl,rfl⟩)
    |(go_at_call 18;(with_reducible refine (CX.out _).mono ?_);rintro en w1 ⟨rfl,rfl⟩))
   refine bodyPost_ret (by simp [results,Tryz.results6,go_sem];try rfl) rfl ?_
   exact HY.out _ _ _ _ (by rw [HS.out];first|exact ⟨rfl,rfl⟩|exact ⟨by first|rfl|assumption,rfl⟩) ⟨rfl,Below.refl _ _⟩
  have z5:(classOf x==5)=false:=beq_eq_false_iff_ne.2 c5
  by_cases cg:13830554455654793216<x
  ·have HS:=hid (show ∀X ch,LpSaid x mode X ch=(X=9221120237041090560∧ch=false) from fun X ch=>by unfold LpSaid;rw [if_pos (.inr cg)])
   clear c5 hk hT VX
   generalize classOf x=k at *
   go_enter Tryz.func6,Tryz.ntmps6
   go_wp2_with (first
    |(go_at_call 17;(with_reducible refine (KN.out _).mono ?_);rintro en w1 ⟨rfl,rfl⟩)
    |(go_at_call 18;(with_reducible refine (CX.out _).mono ?_);rintro en w1 ⟨rfl,rfl⟩))
   refine bodyPost_ret (by simp [results,Tryz.results6,go_sem];try rfl) rfl ?_
   exact HY.out _ _ _ _ (by rw [HS.out];first|exact ⟨rfl,rfl⟩|exact ⟨by first|rfl|assumption,rfl⟩) ⟨rfl,Below.refl _ _⟩
  have n5: ¬(classOf x=5∨13830554455654793216<x):=by rintro (h|h);exact c5 h;exact cg h
  by_cases cm:x=13830554455654793216
  ·have HS:=hid (show ∀X ch,LpSaid x mode X ch=(X=18442240474082181120∧ch=false) from fun X ch=>by unfold LpSaid;rw [if_neg n5,if_pos cm])
   have zm:(x==13830554455654793216)=true:=beq_iff_eq.2 cm
   clear c5 hk hT VX cm n5
   generalize classOf x=k at *
   go_enter Tryz.func6,Tryz.ntmps6
   go_wp2_with (first
    |(go_at_call 17;(with_reducible refine (KN.out _).mono ?_);rintro en w1 ⟨rfl,rfl⟩)
    |(go_at_call 18;(with_reducible refine (CX.out _).mono ?_);rintro en w1 ⟨rfl,rfl⟩))
   refine bodyPost_ret (by simp [results,Tryz.results6,go_sem];try rfl) rfl ?_
   exact HY.out _ _ _ _ (by rw [HS.out];first|exact ⟨rfl,rfl⟩|exact ⟨by first|rfl|assumption,rfl⟩) ⟨rfl,Below.refl _ _⟩
  have zm:(x==13830554455654793216)=false:=beq_eq_false_iff_ne.2 cm
  by_cases c1:classOf x=1
  ·have HS:=hid (show ∀X ch,LpSaid x mode X ch=(X=x∧ch=false) from fun X ch=>by unfold LpSaid;rw [if_neg n5,if_neg cm,if_pos (.inl c1)])
   rw [c1] at CX
   clear c1 c5 hk hT VX cm n5 z5
   go_enter Tryz.func6,Tryz.ntmps6
   go_wp2_with (first
    |(go_at_call 17;(with_reducible refine (KN.out _).mono ?_);rintro en w1 ⟨rfl,rfl⟩)
    |(go_at_call 18;(with_reducible refine (CX.out _).mono ?_);rintro en w1 ⟨rfl,rfl⟩))
   refine bodyPost_ret (by simp [results,Tryz.results6,go_sem];try rfl) rfl ?_
   exact HY.out _ _ _ _ (by rw [HS.out];first|exact ⟨rfl,rfl⟩|exact ⟨by first|rfl|assumption,rfl⟩) ⟨rfl,Below.refl _ _⟩
  have z1:(classOf x==1)=false:=beq_eq_false_iff_ne.2 c1
  by_cases ci:x=9218868437227405312
  ·have HS:=hid (show ∀X ch,LpSaid x mode X ch=(X=x∧ch=false) from fun X ch=>by unfold LpSaid;rw [if_neg n5,if_neg cm,if_pos (.inr ci)])
   have zi:(x==9218868437227405312)=true:=beq_iff_eq.2 ci
   clear c1 c5 hk hT VX cm n5 ci
   generalize classOf x=k at *
   go_enter Tryz.func6,Tryz.ntmps6
   go_wp2_with (first
    |(go_at_call 17;(with_reducible refine (KN.out _).mono ?_);rintro en w1 ⟨rfl,rfl⟩)
    |(go_at_call 18;(with_reducible refine (CX.out _).mono ?_);rintro en w1 ⟨rfl,rfl⟩))
   refine bodyPost_ret (by simp [results,Tryz.results6,go_sem];try rfl) rfl ?_
   exact HY.out _ _ _ _ (by rw [HS.out];first|exact ⟨rfl,rfl⟩|exact ⟨by first|rfl|assumption,rfl⟩) ⟨rfl,Below.refl _ _⟩
  have zi:(x==9218868437227405312)=false:=beq_eq_false_iff_ne.2 ci
  have n1: ¬(classOf x=1∨x=9218868437227405312):=by rintro (h|h);exact c1 h;exact ci h
  have hgt:x<13830554455654793216:=by omega
  have hc4:classOf x<4:=by
   have a1:=class_bd x
   have a2:classOf x≠4:=fun h=>by
    have:=(class_inf x h0 h1).1 h
    unfold absOf at this
    omega
   omega
  obtain ⟨-,b1,b2,b3⟩:=fv_bd x h0 h1
  have hl:(limbs (fv x).1.natAbs).length≤10:=len_le (Nat.le_of_lt b1) (by omega)
  have TP:=hid (fun v w hv=>top9_any v (fv x) w hv (by omega) ⟨by omega,by omega⟩)
  by_cases ct:topD (fv x)< -60
  ·have HS:=hid (show ∀X ch,LpSaid x mode X ch=(X=bsX (fv x) (-1) mode∧ch=bsC (fv x) (-1) mode) from fun X ch=>by unfold LpSaid;rw [if_neg n5,if_neg cm,if_neg n1,if_pos ct])
   obtain ⟨q1,q2,q3⟩:=bes_bd9 (decide ((fv x).1<0)) (fv x).1.natAbs (fv x).2 (-1) b1 ⟨by omega,by omega⟩ (.inl rfl)
   have BS:=hid (show ∀v w,VD w (fv x) v→Calls Tryz.prog 23 #[v,.int .i64 (-1)] w (RetDy w (besNeg (decide ((fv x).1<0)) (fv x).1.natAbs (-1)) (besM (decide ((fv x).1<0)) (fv x).1.natAbs (-1)) (besE (fv x).1.natAbs (fv x).2 (-1))) from fun v w hv=>by
    obtain ⟨a,c,rfl,h2⟩:=hv
    exact beside_any _ _ a c _ (-1) w h2 (by omega) ⟨by omega,by omega⟩)
   have NU:=hid (fun a c w h=>num9_any (besNeg (decide ((fv x).1<0)) (fv x).1.natAbs (-1)) a c (besM (decide ((fv x).1<0)) (fv x).1.natAbs (-1)) (besE (fv x).1.natAbs (fv x).2 (-1)) mode w h (by omega) ⟨by omega,by omega⟩ q3)
   have HX:=hid (show bsX (fv x) (-1) mode=numX (besNeg (decide ((fv x).1<0)) (fv x).1.natAbs (-1)) (besM (decide ((fv x).1<0)) (fv x).1.natAbs (-1)) (besE (fv x).1.natAbs (fv x).2 (-1)) mode from rfl)
   have HC:=hid (show bsC (fv x) (-1) mode=numC (besNeg (decide ((fv x).1<0)) (fv x).1.natAbs (-1)) (besM (decide ((fv x).1<0)) (fv x).1.natAbs (-1)) (besE (fv x).1.natAbs (fv x).2 (-1)) mode from rfl)
   rw [←HX.out,←HC.out] at NU
   clear HX HC q1 q2 q3 b1 b2 b3 hl c1 c5 hk hT cm ci n5 n1 hc4
   generalize bsX (fv x) (-1) mode=RX at *
   generalize bsC (fv x) (-1) mode=RC at *
   generalize besNeg (decide ((fv x).1<0)) (fv x).1.natAbs (-1)=bn at *
   generalize besM (decide ((fv x).1<0)) (fv x).1.natAbs (-1)=bm at *
   generalize besE (fv x).1.natAbs (fv x).2 (-1)=be at *
   generalize topD (fv x)=tp at *
   generalize classOf x=k at *
   generalize fv x=D at *
   go_enter Tryz.func6,Tryz.ntmps6
   go_upto_region 10 with (first
    |(go_at_call 17;(with_reducible refine (KN.out _).mono ?_);rintro en w1 ⟨rfl,rfl⟩)
    |(go_at_call 18;(with_reducible refine (CX.out _).mono ?_);rintro en w1 ⟨rfl,rfl⟩)
    |(go_at_call 20;(with_reducible refine (VX.out _ HT.out).mono ?_);rintro en w2 ⟨v2,rfl,⟨a2,c2,rfl,hN2⟩,hb2⟩))
   refine wp_wld9 (fun WW=>Below w.heap.size w WW∧DV 38 WW w2.heap.size D) ⟨below_trans hb2 (below_alloc _ _),⟨a2,c2,QL.made rfl,hN2.below (below_alloc _ _)⟩⟩ ?_
   obtain ⟨g7,hg7⟩: ∃g,g=w2.heap.size:=⟨_,rfl⟩
   rw [←hg7]
   clear hN2 hb2 hg7
   intro W2 ⟨yb2,z7⟩
   obtain ⟨a7,c7,⟨⟨j0,j1,-⟩,j2,-⟩,n7⟩:=id z7
   have v7:VD W2 D (.agg #[.bool (decide (D.1<0)),.slice a7 (limbs D.1.natAbs).length c7,.int .i64 D.2]):=⟨a7,c7,rfl,n7⟩
   go_upto_region 11 with (go_at_call 21;(with_reducible refine (TP.out _ _ v7).mono ?_);rintro en w3 ⟨rfl,hb3⟩)
   obtain ⟨a7',c7',⟨⟨i0,i1,-⟩,i2,-⟩,n7'⟩:=z7.below hb3
   have v73:VD w3 D (.agg #[.bool (decide (D.1<0)),.slice a7' (limbs D.1.natAbs).length c7',.int .i64 D.2]):=⟨a7',c7',rfl,n7'⟩
   clear j0 j1 j2 z7 v7 n7 n7'
   go_wp2_with (first
    |(go_at_call 23;(with_reducible refine (BS.out _ _ v73).mono ?_);rintro en w4 ⟨a4,c4,rfl,hN4,hb4⟩)
    |(go_at_call 22;(with_reducible refine (NU.out _ _ _ hN4).mono ?_);rintro en w5 ⟨rfl,hb5⟩))
   refine bodyPost_ret (by simp [results,Tryz.results6,go_sem];try rfl) rfl ?_
   exact HY.out _ _ RX RC (by rw [HS.out];exact ⟨rfl,rfl⟩) ⟨rfl,below_trans (below_trans (below_trans yb2 hb3) hb4) hb5⟩
  ·have HS:=hid (show ∀X ch,LpSaid x mode X ch=(ch=true∧LnR (addD (fv x) (nrm 1 0)).1.natAbs (addD (fv x) (nrm 1 0)).2 mode X) from fun X ch=>by unfold LpSaid;rw [if_neg n5,if_neg cm,if_neg n1,if_neg ct])
   obtain ⟨p1,p2,p3,p4⟩:=lp_ok x h0 h1 hgt hc4 c1 (by omega)
   have PL:=hid (fun v u w hv hu t=>plusD_any v u (fv x) (nrm 1 0) w hv hu (by omega) (by decide) ⟨by omega,by omega⟩ (by decide) t)
   have ON:=hid (fun w t=>one9_any w t)
   have LG:=hid (show ∀v w,VD w (addD (fv x) (nrm 1 0)) v→Tab 0 w→Calls Tryz.prog 19 #[v,.int .i64 mode] w (RetLn w (addD (fv x) (nrm 1 0)).1.natAbs (addD (fv x) (nrm 1 0)).2 mode) from fun v w hv t=>by
    obtain ⟨a,c,rfl,h2⟩:=hv
    exact logarithm_any _ _ mode _ a c w h2 (by omega) p2 p3 p4 (known_bd hk).1 (known_bd hk).2 t)
   clear p1 p2 p3 p4 b1 b2 b3 hl c1 c5 hk hT cm ci n5 n1 hc4
   generalize topD (fv x)=tp at *
   generalize classOf x=k at *
   generalize addD (fv x) (nrm 1 0)=E at *
   generalize fv x=D at *
   generalize nrm 1 0=I1 at *
   go_enter Tryz.func6,Tryz.ntmps6
   go_upto_region 10 with (first
    |(go_at_call 17;(with_reducible refine (KN.out _).mono ?_);rintro en w1 ⟨rfl,rfl⟩)
    |(go_at_call 18;(with_reducible refine (CX.out _).mono ?_);rintro en w1 ⟨rfl,rfl⟩)
    |(go_at_call 20;(with_reducible refine (VX.out _ HT.out).mono ?_);rintro en w2 ⟨v2,rfl,⟨a2,c2,rfl,hN2⟩,hb2⟩))
   refine wp_wld9 (fun WW=>Below w.heap.size w WW∧DV 38 WW w2.heap.size D) ⟨below_trans hb2 (below_alloc _ _),⟨a2,c2,QL.made rfl,hN2.below (below_alloc _ _)⟩⟩ ?_
   obtain ⟨g7,hg7⟩: ∃g,g=w2.heap.size:=⟨_,rfl⟩
   rw [←hg7]
   clear hN2 hb2 hg7
   intro W2 ⟨yb2,z7⟩
   obtain ⟨a7,c7,⟨⟨j0,j1,-⟩,j2,-⟩,n7⟩:=id z7
   have v7:VD W2 D (.agg #[.bool (decide (D.1<0)),.slice a7 (limbs D.1.natAbs).length c7,.int .i64 D.2]):=⟨a7,c7,rfl,n7⟩
   go_upto_region 12 with (go_at_call 21;(with_reducible refine (TP.out _ _ v7).mono ?_);rintro en w3 ⟨rfl,hb3⟩)
   have yb3:=below_trans yb2 hb3
   have z73:=z7.below hb3
   clear j0 j1 j2 z7 v7 n7 yb2 hb3
   refine wp_region_grow 8 [43,44,45,46,47,48,49,50] [Fact.vd D,Fact.vd I1,Fact.vd E,Fact.is (.int .i64 mode),Fact.ln E.1.natAbs E.2 mode,Fact.lnx E.1.natAbs E.2 mode,Fact.is (.bool true),Fact.is (.int .i64 0)] (by kernel_rfl) (by kernel_rfl) ⟨?o0,?o1,?o2,?o3,?o4,?o5,?o6,?o7,trivial⟩ ?after
   case o0=>(refine oQ rfl ?_;intro ρ w1 R hcon hfn hρ hb hp hR;have e7:ρ (.tmp 7)=.pointer (some ⟨g7,0,none⟩):=hρ.tmp 7 rfl;obtain ⟨qa,qc,⟨⟨j0,j1,-⟩,j2,-⟩,hqN⟩:=z73.below hb;clear hρ hp;unfold OpRun;go_simp;exact hR _ _ (Below.refl _ _) ⟨qa,qc,rfl,hqN⟩)
   case o1=>(refine oQ rfl ?_;intro ρ w1 R hcon hfn hρ hb hp hR;clear hρ hp;unfold OpRun;go_simp;(refine (ON.out _ (HT.out.below (below_trans yb3 hb))).mono ?_;rintro e wn ⟨v9,rfl,hv9,hbn⟩;exact ⟨_,rfl,hR _ _ hbn hv9⟩))
   case o2=>(refine oQ rfl ?_;intro ρ w1 R hcon hfn hρ hb hp hR;have f43:=hp 0 43 rfl rfl;have f44:=hp 1 44 rfl rfl;clear hρ hp;unfold OpRun;go_simp;(refine (PL.out _ _ _ f43 f44 (HT.out.below (below_trans yb3 hb))).mono ?_;rintro e wn ⟨v9,rfl,hv9,hbn⟩;exact ⟨_,rfl,hR _ _ hbn hv9⟩))
   case o3=>(refine oQ rfl ?_;intro ρ w1 R hcon hfn hρ hb hp hR;have e1:ρ (.tmp 1)=.int .i64 mode:=hρ.tmp 1 rfl;clear hρ hp;unfold OpRun;go_simp;exact hR _ _ (Below.refl _ _) rfl)
   case o4=>(refine oQ rfl ?_;intro ρ w1 R hcon hfn hρ hb hp hR;have f45:=hp 2 45 rfl rfl;have e46:ρ (.tmp 46)=_:=hp 3 46 rfl rfl;clear hρ hp;unfold OpRun;go_simp;(refine (LG.out _ _ f45 (HT.out.below (below_trans yb3 hb))).mono ?_;rintro e wn ⟨X9,hX9,rfl,hbn⟩;exact ⟨_,rfl,hR _ _ hbn ⟨X9,hX9,rfl⟩⟩))
   case o5=>(refine oQ rfl ?_;intro ρ w1 R hcon hfn hρ hb hp hR;have f47:=hp 4 47 rfl rfl;obtain ⟨X9,h9,e9⟩:=f47;clear hρ hp;unfold OpRun;go_simp;exact hR _ _ (Below.refl _ _) ⟨X9,h9,rfl⟩)
   case o6=>(refine oQ rfl ?_;intro ρ w1 R hcon hfn hρ hb hp hR;have f47:=hp 4 47 rfl rfl;obtain ⟨X9,h9,e9⟩:=f47;clear hρ hp;unfold OpRun;go_simp;exact hR _ _ (Below.refl _ _) rfl)
   case o7=>(refine oQ rfl ?_;intro ρ w1 R hcon hfn hρ hb hp hR;have f47:=hp 4 47 rfl rfl;obtain ⟨X9,h9,e9⟩:=f47;clear hρ hp;unfold OpRun;go_simp;exact hR _ _ (Below.refl _ _) rfl)
   case after=>
    intro u wn hb hf
    have f48:=hf 5 48 (by omega) rfl
    have e49:u 49=_:=hf 6 49 (by omega) rfl
    have e50:u 50=_:=hf 7 50 (by omega) rfl
    clear hf
    simp only [putAll,Act.put,List.setIfInBounds_toArray,List.set_cons_zero,List.set_cons_succ,List.drop_succ_cons,List.drop_zero,List.drop_nil]
    rw [e49,e50]
    obtain ⟨X,hX,e48⟩:=f48
    rw [e48]
    have HX:=hid hX
    clear hX e48
    go_wp2_with fail
    refine bodyPost_ret (by simp [results,Tryz.results6,go_sem];try rfl) rfl ?_
    exact HY.out _ _ X true (by rw [HS.out];exact ⟨rfl,HX.out⟩) ⟨rfl,below_trans yb3 hb⟩
end Go.Proofs.YtehhegbkahnhgaaGreatDoor
namespace Go.Ulp
open Go.RowKit
def isDg (b:UInt8):Bool:=decide (48≤b.toNat∧b.toNat≤57)
def dvA (acc:Nat) (L:List UInt8):Nat:=L.foldl (fun a b=>a*10+(b.toNat-48)) acc
def dvl (L:List UInt8):Nat:=dvA 0 L
def AllDg (L:List UInt8):Prop:= ∀b∈L,isDg b=true
theorem dvA_cons (acc:Nat) (b:UInt8) (r:List UInt8):dvA acc (b::r)=dvA (acc*10+(b.toNat-48)) r:=by unfold dvA;rw [List.foldl_cons]
theorem dvA_app (acc:Nat) (A B:List UInt8):dvA acc (A++B)=dvA (dvA acc A) B:=by unfold dvA;rw [List.foldl_append]
theorem dvl_cons (b:UInt8) (r:List UInt8):dvl (b::r)=dvA (b.toNat-48) r:=by unfold dvl;rw [dvA_cons,Nat.zero_mul,Nat.zero_add]
theorem dvA_acc (L:List UInt8): ∀(acc:Nat),dvA acc L=acc*10^L.length+dvl L:=by
 induction L with
 |nil=>intro acc;rw [List.length_nil,Nat.pow_zero,Nat.mul_one];rfl
 |cons b r ih=>
  intro acc
  rw [dvA_cons,ih,dvl_cons,ih,List.length_cons,Nat.pow_succ,Nat.add_mul,Nat.mul_assoc,Nat.mul_comm 10,Nat.add_assoc]
theorem dg_bd {b:UInt8} (h:isDg b=true):48≤b.toNat∧b.toNat≤57:=of_decide_eq_true h
theorem AllDg.tail {b:UInt8} {r:List UInt8} (h:AllDg (b::r)):AllDg r:=fun x hx=>h x (List.mem_cons_of_mem _ hx)
theorem dvl_lt: ∀(L:List UInt8),AllDg L→dvl L<10^L.length
 | [],_=>by show 0<1;omega
 |b::r,h=>by
  have h1:=dvl_lt r h.tail
  have h2:=dg_bd (h b (List.mem_cons_self ..))
  rw [dvl_cons,dvA_acc,List.length_cons,Nat.pow_succ]
  have h3:(b.toNat-48)*10^r.length≤9*10^r.length:=Nat.mul_le_mul_right _ (by omega)
  omega
theorem drop_cons {L:List UInt8} {j:Nat} {b:UInt8} {r:List UInt8} (h:L.drop j=b::r):j<L.length∧L.drop (j+1)=r∧L.getD j 0=b:=by
 have h1:j<L.length:=by
  rcases Nat.lt_or_ge j L.length with h9|h9
  ·exact h9
  ·rw [List.drop_eq_nil_of_le h9] at h;cases h
 have h2:L.drop (j+1)=(L.drop j).drop 1:=by rw [List.drop_drop]
 refine ⟨h1,by rw [h2,h];rfl,?_⟩
 rw [List.drop_eq_getElem_cons h1] at h
 injection h with h3 _
 rw [List.getD_eq_getElem?_getD,List.getElem?_eq_getElem h1];exact h3
theorem run_index {P:Program} {t:TypeId} (ht:P.underlying t=some .string) (L:List UInt8) (j:Nat) (b:UInt8) (r:List UInt8) (h:L.drop j=b::r) (w:World):(Instr.index t (.string (bsOf L)) (.int .i64 (j:Int))).run P w=.ok (.int .u8 (b.toNat:Int)) w:=by
 obtain ⟨h1,-,h3⟩:=drop_cons h
 rw [run_index_string _ _ _ _ _ ht,dif_pos ⟨by omega,by rw [bs_size];omega⟩]
 have key: ∀(n:Nat) (hn:n<(bsOf L).size),n=j→(bsOf L)[n]=b:=by
  rintro n hn rfl
  show L.toArray[n]'(by rw [bs_size] at hn;simpa using hn)=b
  rw [List.getElem_toArray]
  rw [List.getD_eq_getElem?_getD,List.getElem?_eq_getElem h1] at h3
  exact h3
 rw [key _ _ (by omega)]
def rkc (n:Nat) (k:Int):Int:=min (max k (-2500-(n:Int))) 2500
def rdNum (Z n:Nat) (k:Int):Nat:=Z*10^(rkc n k).toNat
def rdDen (n:Nat) (k:Int):Nat:=10^(-(rkc n k)).toNat
end Go.Ulp
namespace Go.Proofs.YtehhegbkahnhgaaGreatDoor
open Go.RowKit Go.Ulp
set_option maxHeartbeats 2000000
set_option maxRecDepth 100000
theorem zDigits_any (L:List UInt8) (w:World) (hL:AllDg L) (hl:L.length≤3100000000):
 Calls Tryz.prog 124 #[.string (bsOf L)] w (RetZD 3 w ((dvl L:Nat):Int)):=by
 obtain ⟨V,hV⟩: ∃V,V=dvl L:=⟨_,rfl⟩
 rw [←hV]
 have hsz:=bs_size L
 go_enter Tryz.func124,Tryz.ntmps124
 go_upto_region 2 with fail
 have n0: ∀w,Nz 3 w none 0 (zl 0):=fun w=>Nz.nil' none 0 (by decide)
 have zz:=zv_made2 (tz:=47) (ti:=3) (w:=w) (x:=0) (y:=0) (n0 _) (n0 _)
 refine wp_worldZ (fun WW=>Below w.heap.size w WW∧ZV 47 3 WW w.heap.size 0∧ZV 47 3 WW (w.heap.size+1) 0) ⟨zz.1,zz.2.1,by first|exact zz.2.2|(have h:=zz.2.2;simpa using h)⟩ ?_
 intro W1 ⟨y1,z2,z3⟩
 obtain ⟨g2,hg2⟩: ∃g,g=w.heap.size:=⟨_,rfl⟩
 obtain ⟨g3,hg3⟩: ∃g,g=w.heap.size+1:=⟨_,rfl⟩
 have b2:w.heap.size≤g2:=by omega
 have b3:w.heap.size≤g3:=by omega
 have gne:g2≠g3:=by omega
 rw [←hg3] at z3 ⊢
 rw [←hg2] at z2 ⊢
 clear hg2 hg3 zz n0
 have Z2:=hid z2
 have Z3:=hid z3
 clear z2 z3
 have HVL:=hid hV
 obtain ⟨E,hE⟩: ∃E:Nat,E=3100000000:=⟨_,rfl⟩
 have HL10:=hid (fun q (h:q<10^E)=>Nat.le_trans (zl_len_le (x:=((q:Nat):Int)) (y:=tenZ E) (by unfold tenZ;rw [Int.natAbs_natCast,Int.natAbs_natCast];omega)) (zl_len_ten4 E))
 clear hV
 go_wp2_with fail
 go_loopw [4,8] (fun s4 s8 wr=> ∃(j q:Nat),s8=.int .i64 (j:Int)∧j≤L.length∧dvA q (L.drop j)=V∧q<10^(E-(L.length-j))∧ZV 47 3 wr g2 0∧ZV 47 3 wr g3 (q:Int)∧Below w.heap.size w wr) (fun _ s8 _=>L.length-(intOf s8).toNat)
 case atStart=>exact ⟨0,0,rfl,by omega,HVL.out.symm,Nat.pow_pos (by omega),Z2.out,Z3.out,y1⟩
 case round=>
  obtain ⟨j,q,rfl,hj,hq,hqb,z2,z3,yr⟩:=hrel
  clear Z2 Z3 y1
  cases hd:L.drop j with
  |nil=>
   have g1: ¬(j:Int)<(L.length:Int):=by
    have:=congrArg List.length hd
    rw [List.length_drop,List.length_nil] at this;omega
   rw [hd] at hq
   have e:q=V:=hq
   subst e
   obtain ⟨a3,c3,zl3,n3⟩:=z3
   obtain ⟨a2,c2,zl2,n2⟩:=z2
   have zst:=zv_store1 (by decide) yr b2 zl2 n3
   obtain ⟨j0,j1,-⟩:=zl3
   obtain ⟨k0,k1,kf0,kf1,kk⟩:=id zl2
   have HS:=hid zst
   clear hd hq hqb zst
   go_wp2_with fail
   have zst:=HS.out
   obtain ⟨a9,c9,zl9,n9⟩:=id zst.2
   obtain ⟨m0,m1,-⟩:=id zl9
   refine bodyPost_ret (by simp [results,Tryz.results124,go_sem,m0,m1];try rfl) rfl ?_
   exact ⟨_,rfl,⟨a9,c9,rfl,n9⟩,zst.1⟩
  |cons b r=>
   obtain ⟨q1,q2,-⟩:=drop_cons hd
   have hix:=run_index (P:=Tryz.prog) Tryz.underlying9 L j b r hd
   have hbd:=dg_bd (hL b (List.mem_of_mem_drop (by rw [hd];exact List.mem_cons_self ..)))
   rw [hd,dvA_cons] at hq
   obtain ⟨d,hdd⟩: ∃d:Nat,d=b.toNat-48:=⟨_,rfl⟩
   rw [←hdd] at hq
   obtain ⟨x,hx⟩: ∃x:Int,x=(b.toNat:Int):=⟨_,rfl⟩
   rw [←hx] at hix
   have wB:IntKind.u8.wrap (x-48)=(d:Int):=by rw [IntKind.wrap_u8];omega
   have wC:IntKind.i64.wrap (d:Int)=(d:Int):=IntWalk.i64_in _ (by omega)
   have wI:IntKind.i64.wrap ((j:Int)+1)=(j:Int)+1:=IntWalk.i64_in _ (by omega)
   have hqb2:q*10+d<10^(E-(L.length-(j+1))):=by
    have h1:(q+1)*10≤10^(E-(L.length-j))*10:=Nat.mul_le_mul_right _ hqb
    rw [←Nat.pow_succ,show (E-(L.length-j)).succ=E-(L.length-(j+1)) by omega] at h1
    omega
   have hpe:10^(E-(L.length-(j+1)))≤10^E:=Nat.pow_le_pow_right (by omega) (by omega)
   have lq:=HL10.out q (by omega)
   have lq2:(zl ((q:Int)*10)).length≤E/4+1:=by
    have h:=HL10.out (q*10) (by omega)
    rw [Int.natCast_mul] at h
    exact h
   have ld:(zl (d:Int)).length≤900000000:=Nat.le_trans (HL10.out d (by omega)) (by omega)
   have HQ:=hid (show dvA (q*10+d) (L.drop (j+1))=V by rw [q2];exact hq)
   have HQB:=hid hqb2
   have l10:(zl 10).length≤900000:=by decide
   have hd10:d<10:=by omega
   clear hd hq hqb hqb2 hpe hbd hx hdd q2
   go_upto_region 5 with fail
   obtain ⟨W4,hW4⟩: ∃W,W=wr:=⟨_,rfl⟩
   subst hW4
   refine wp_region_grow 10 [11,12,13,14,15,16,17,18,19,20] [Fact.z 3 ((q:Int)),Fact.z 3 (10),Fact.z 3 (((q:Int))*(10)),Fact.is (.string (bsOf L)),Fact.is (.int .i64 (j:Int)),Fact.is (.int .u8 x),Fact.is (.int .u8 (d:Int)),Fact.is (.int .i64 (d:Int)),Fact.z 3 ((d:Int)),Fact.z 3 ((((q:Int))*(10))+((d:Int)))] (by kernel_rfl) (by kernel_rfl) ⟨?o0,?o1,?o2,?o3,?o4,?o5,?o6,?o7,?o8,?o9,trivial⟩ ?after
   case o0=>(refine oQ rfl ?_;intro ρ w1 R hcon hfn hρ hb hp hR;have e3:ρ (.tmp 3)=.pointer (some ⟨g3,0,none⟩):=hρ.tmp 3 rfl;obtain ⟨ya9,yc9,yj9,yn9⟩:=ZV.below z3 hb;obtain ⟨j90,j91,-⟩:=yj9;clear hρ hp;unfold OpRun;go_simp;exact hR _ _ (Below.refl _ _) ⟨ya9,yc9,rfl,yn9⟩)
   case o1=>(refine oQ rfl ?_;intro ρ w1 R hcon hfn hρ hb hp hR;clear hρ hp;unfold OpRun;go_simp;(refine (zND _ (by omega) (by omega) _).mono ?_;rintro e wn ⟨v9,rfl,hz9,hbn⟩;exact ⟨_,rfl,hR _ _ hbn hz9⟩))
   case o2=>(refine oQ rfl ?_;intro ρ w1 R hcon hfn hρ hb hp hR;have f11:=hp 0 11 rfl rfl;have f12:=hp 1 12 rfl rfl;clear hρ hp;unfold OpRun;go_simp;(refine (zmulD _ _ _ _ _ f11 f12 (by first|assumption|omega) (by first|assumption|omega)).mono ?_;rintro e wn ⟨v9,rfl,hz9,hbn⟩;exact ⟨_,rfl,hR _ _ hbn hz9⟩))
   case o3=>(refine oQ rfl ?_;intro ρ w1 R hcon hfn hρ hb hp hR;have e0:ρ (.tmp 0)=.string (bsOf L):=hρ.tmp 0 rfl;clear hρ hp;unfold OpRun;go_simp;exact hR _ _ (Below.refl _ _) rfl)
   case o4=>(refine oQ rfl ?_;intro ρ w1 R hcon hfn hρ hb hp hR;have e4:ρ (.tmp 4)=.int .i64 (j:Int):=hρ.tmp 4 rfl;clear hρ hp;unfold OpRun;go_simp;exact hR _ _ (Below.refl _ _) rfl)
   case o5=>(refine oQ rfl ?_;intro ρ w1 R hcon hfn hρ hb hp hR;have e14:ρ (.tmp 14)=_:=hp 3 14 rfl rfl;have e15:ρ (.tmp 15)=_:=hp 4 15 rfl rfl;clear hρ hp;unfold OpRun;go_simp;exact hR _ _ (Below.refl _ _) rfl)
   case o6=>(refine oQ rfl ?_;intro ρ w1 R hcon hfn hρ hb hp hR;have e16:ρ (.tmp 16)=_:=hp 5 16 rfl rfl;clear hρ hp;unfold OpRun;go_simp;exact hR _ _ (Below.refl _ _) rfl)
   case o7=>(refine oQ rfl ?_;intro ρ w1 R hcon hfn hρ hb hp hR;have e17:ρ (.tmp 17)=_:=hp 6 17 rfl rfl;clear hρ hp;unfold OpRun;go_simp;exact hR _ _ (Below.refl _ _) rfl)
   case o8=>(refine oQ rfl ?_;intro ρ w1 R hcon hfn hρ hb hp hR;have e18:ρ (.tmp 18)=_:=hp 7 18 rfl rfl;clear hρ hp;unfold OpRun;go_simp;(refine (zND _ (by omega) (by omega) _).mono ?_;rintro e wn ⟨v9,rfl,hz9,hbn⟩;exact ⟨_,rfl,hR _ _ hbn hz9⟩))
   case o9=>(refine oQ rfl ?_;intro ρ w1 R hcon hfn hρ hb hp hR;have f13:=hp 2 13 rfl rfl;have f19:=hp 8 19 rfl rfl;clear hρ hp;unfold OpRun;go_simp;(refine (zaddD _ _ _ _ _ f13 f19 (by first|assumption|omega) (by first|assumption|omega)).mono ?_;rintro e wn ⟨v9,rfl,hz9,hbn⟩;exact ⟨_,rfl,hR _ _ hbn hz9⟩))
   case after=>
    intro u wn hb hf
    have f20:=hf 9 20 (by omega) rfl
    clear hf
    simp only [putAll,Act.put,List.setIfInBounds_toArray,List.set_cons_zero,List.set_cons_succ,List.drop_succ_cons,List.drop_zero,List.drop_nil]
    obtain ⟨a6,c6,e20,n6⟩:=f20
    rw [e20]
    have yb:=below_trans yr hb
    have z2a:=z2.below hb
    obtain ⟨a3,c3,zl3,n3⟩:=z3.below hb
    have zst:=zv_store1 (by decide) yb b3 zl3 n6
    have z2b:=z2a.set2 (zl3.2.2.2.2) (by decide) gne (.bool (zneg ((q:Int)*10+(d:Int)))) (.slice a6 (zl ((q:Int)*10+(d:Int))).length c6)
    obtain ⟨k0,k1,kf0,kf1,-⟩:=id zl3
    have HZ:=hid (And.intro zst z2b)
    clear z2 z3 z2a hb yr n3 zst z2b e20
    go_wp2_with fail
    go_roundw
    case rel=>exact ⟨j+1,q*10+d,by go_num,by omega,HQ.out,HQB.out,HZ.out.2,HZ.out.1.2,HZ.out.1.1⟩
    case measure=>simp [intOf];omega
end Go.Proofs.YtehhegbkahnhgaaGreatDoor
namespace Go.Ulp
open Go.RowKit
theorem nrm_inj8 {x y e:Int} (h:nrm x e=nrm y e):x=y:=by
 obtain ⟨k,a1,a2⟩:=nrm_rep x e
 obtain ⟨l,b1,b2⟩:=nrm_rep y e
 by_cases hx:x=0
 ·have h3:(nrm y e).1=0:=by rw [←h,hx];rfl
  rw [hx,(nrm_zero_iff _ _).1 h3]
 ·have hy:y≠0:=fun hy=>hx ((nrm_zero_iff x e).1 (by rw [h,hy];rfl))
  have a2:=a2 hx
  have b2:=b2 hy
  rw [h] at a1 a2
  have:k=l:=by omega
  rw [this] at a1
  exact a1.trans b1.symm
theorem nrm_cross {X Y:Int} {n k:Nat} (h:nrm X (-(n:Int))=nrm Y (-(k:Int))):X*pw k=Y*pw n:=by
 have h1:=nrm_scale X (-(n:Int)-k) k
 have h2:=nrm_scale Y (-(n:Int)-k) n
 rw [show -(n:Int)-k+k= -(n:Int) by omega] at h1
 rw [show -(n:Int)-k+n= -(k:Int) by omega] at h2
 exact nrm_inj8 (h1.trans (h.trans h2.symm))
theorem cmp_nrmK {X Y:Int} {n k:Nat} (h:nrm X (-(n:Int))=nrm Y (-(k:Int))) (A B:Int):cmpI (X*B) (A*pw n)=cmpI (Y*B) (A*pw k):=by
 have h1:=nrm_cross h
 have hk:0<pw k:=pw_pos k
 have hn:0<pw n:=pw_pos n
 rw [←cmpI_scale (X*B) (A*pw n) (pw k) hk,←cmpI_scale (Y*B) (A*pw k) (pw n) hn,Int.mul_right_comm X,h1,Int.mul_right_comm Y,Int.mul_right_comm A]
end Go.Ulp
namespace Go.Proofs.YtehhegbkahnhgaaGreatDoor
open Go.RowKit Go.Ulp
set_option maxHeartbeats 2000000
set_option maxRecDepth 100000
theorem rbCmp_core (X A B:Int) (n:Nat) (ao:Option Addr) (cap gA gB:Nat) (w:World) (h0:Nz 3 w ao cap (zl X)) (hB:ZV 47 3 w gB B) (hA:ZV 47 3 w gA A) (lX:(zl X).length≤1000000) (hn:n≤1000000) (lA:(zl A).length≤1000000000) (lB:(zl B).length≤1000000000):
 Calls Tryz.prog 125 #[.agg #[.bool (zneg X),.slice ao (zl X).length cap,.int .i64 (n:Int)],.pointer (some ⟨gB,0,none⟩),.pointer (some ⟨gA,0,none⟩)] w fun e w'=>e=.returned (.int .i64 (cmpI (X*B) (A*pw n)))∧Below w.heap.size w w':=by
 have lP:(zl (pw n)).length≤1000001:=Nat.le_trans (zl_len_pw n) (by omega)
 have q0:QL 49 (w.alloc (.cells #[.bool (zneg X),.slice ao (zl X).length cap,.int .i64 (n:Int)] 49)) w.heap.size (zneg X) (.slice ao (zl X).length cap) (n:Int):=QL.made rfl
 have y0:=below_alloc w (.cells #[.bool (zneg X),.slice ao (zl X).length cap,.int .i64 (n:Int)] 49)
 have zz:ZV 49 3 (w.alloc (.cells #[.bool (zneg X),.slice ao (zl X).length cap,.int .i64 (n:Int)] 49)) w.heap.size X:=⟨ao,cap,q0.1,h0.below y0⟩
 have cc:=q0.2.1
 have kA:=hA.below y0
 have kB:=hB.below y0
 have HXX:=hid lX
 clear h0
 go_enter Tryz.func125,Tryz.ntmps125
 go_upto_region 1 with fail
 refine wp_worldZ (fun WW=>Below w.heap.size w WW∧ZV 49 3 WW w.heap.size X∧WW.cell? ⟨w.heap.size,2,none⟩=some (.int .i64 (n:Int))∧ZV 47 3 WW gA A∧ZV 47 3 WW gB B) ⟨y0,zz,cc,kA,kB⟩ ?_
 intro W1 ⟨yb1,zQ,c2,z1,z2⟩
 obtain ⟨g2,hg2⟩: ∃g,g=w.heap.size:=⟨_,rfl⟩
 rw [←hg2] at zQ c2 ⊢
 clear hg2 q0 y0 zz cc kA kB hA hB
 refine wp_region_grow 10 [5,6,7,8,9,10,11,12,13,14] [Fact.is (.pointer (some ⟨g2,0,none⟩)),Fact.z 3 (X),Fact.z 3 (B),Fact.z 3 ((X)*(B)),Fact.z 3 (A),Fact.is (.pointer (some ⟨g2,2,none⟩)),Fact.is (.int .i64 (n:Int)),Fact.z 3 (pw n),Fact.z 3 ((A)*(pw n)),Fact.is (.int .i64 (cmpI ((X)*(B)) ((A)*(pw n))))] (by kernel_rfl) (by kernel_rfl) ⟨?o0,?o1,?o2,?o3,?o4,?o5,?o6,?o7,?o8,?o9,trivial⟩ ?after
 case o0=>(refine oQ rfl ?_;intro ρ w1 R hcon hfn hρ hb hp hR;have e3:ρ (.tmp 3)=.pointer (some ⟨g2,0,none⟩):=hρ.tmp 3 rfl;clear hρ hp;unfold OpRun;go_simp;exact hR _ _ (Below.refl _ _) rfl)
 case o1=>(refine oQ rfl ?_;intro ρ w1 R hcon hfn hρ hb hp hR;have e5:ρ (.tmp 5)=_:=hp 0 5 rfl rfl;obtain ⟨ya9,yc9,yj9,yn9⟩:=ZV.below zQ hb;obtain ⟨j90,j91,-⟩:=yj9;clear hρ hp;unfold OpRun;go_simp;exact hR _ _ (Below.refl _ _) ⟨ya9,yc9,rfl,yn9⟩)
 case o2=>(refine oQ rfl ?_;intro ρ w1 R hcon hfn hρ hb hp hR;have e1:ρ (.tmp 1)=.pointer (some ⟨gB,0,none⟩):=hρ.tmp 1 rfl;obtain ⟨ya9,yc9,yj9,yn9⟩:=ZV.below z2 hb;obtain ⟨j90,j91,-⟩:=yj9;clear hρ hp;unfold OpRun;go_simp;exact hR _ _ (Below.refl _ _) ⟨ya9,yc9,rfl,yn9⟩)
 case o3=>(refine oQ rfl ?_;intro ρ w1 R hcon hfn hρ hb hp hR;have f6:=hp 1 6 rfl rfl;have f7:=hp 2 7 rfl rfl;clear hρ hp;unfold OpRun;go_simp;(refine (zmulD _ _ _ _ _ f6 f7 (by first|assumption|omega) (by first|assumption|omega)).mono ?_;rintro e wn ⟨v9,rfl,hz9,hbn⟩;exact ⟨_,rfl,hR _ _ hbn hz9⟩))
 case o4=>(refine oQ rfl ?_;intro ρ w1 R hcon hfn hρ hb hp hR;have e2:ρ (.tmp 2)=.pointer (some ⟨gA,0,none⟩):=hρ.tmp 2 rfl;obtain ⟨ya9,yc9,yj9,yn9⟩:=ZV.below z1 hb;obtain ⟨j90,j91,-⟩:=yj9;clear hρ hp;unfold OpRun;go_simp;exact hR _ _ (Below.refl _ _) ⟨ya9,yc9,rfl,yn9⟩)
 case o5=>(refine oQ rfl ?_;intro ρ w1 R hcon hfn hρ hb hp hR;have e3:ρ (.tmp 3)=.pointer (some ⟨g2,0,none⟩):=hρ.tmp 3 rfl;clear hρ hp;unfold OpRun;go_simp;exact hR _ _ (Below.refl _ _) rfl)
 case o6=>(refine oQ rfl ?_;intro ρ w1 R hcon hfn hρ hb hp hR;have e10:ρ (.tmp 10)=_:=hp 5 10 rfl rfl;have j12:=(hb.cell (World.block_lt_of_cell? _ _ c2)).trans c2;clear hρ hp;unfold OpRun;go_simp;exact hR _ _ (Below.refl _ _) rfl)
 case o7=>(refine oQ rfl ?_;intro ρ w1 R hcon hfn hρ hb hp hR;have e11:ρ (.tmp 11)=_:=hp 6 11 rfl rfl;clear hρ hp;unfold OpRun;go_simp;(refine (zpowD n _ (by first|assumption|omega)).mono ?_;rintro e wn ⟨v9,rfl,hz9,hbn⟩;exact ⟨_,rfl,hR _ _ hbn hz9⟩))
 case o8=>(refine oQ rfl ?_;intro ρ w1 R hcon hfn hρ hb hp hR;have f9:=hp 4 9 rfl rfl;have f12:=hp 7 12 rfl rfl;clear hρ hp;unfold OpRun;go_simp;(refine (zmulD _ _ _ _ _ f9 f12 (by first|assumption|omega) (by first|assumption|omega)).mono ?_;rintro e wn ⟨v9,rfl,hz9,hbn⟩;exact ⟨_,rfl,hR _ _ hbn hz9⟩))
 case o9=>(refine oQ rfl ?_;intro ρ w1 R hcon hfn hρ hb hp hR;have f8:=hp 3 8 rfl rfl;have f13:=hp 8 13 rfl rfl;clear hρ hp;unfold OpRun;go_simp;(refine (zcmpD _ _ _ _ _ f8 f13).mono ?_;rintro e wn ⟨rfl,hbn⟩;exact ⟨_,rfl,hR _ _ hbn rfl⟩))
 case after=>
  intro u wn hb hf
  have e14:u 14=_:=hf 9 14 (by omega) rfl
  clear hf
  simp only [putAll,Act.put,List.setIfInBounds_toArray,List.set_cons_zero,List.set_cons_succ,List.drop_succ_cons,List.drop_zero,List.drop_nil]
  rw [e14]
  go_wp2_with fail
  go_ret
  exact ⟨rfl,below_trans yb1 hb⟩
theorem rbCmp_any (v:Value) (D:Dy) (AA T:Nat) (Y A B:Int) (k gA gB:Nat) (w:World) (hq:QD 3 w D AA T v) (hD:D=nrm Y (-(k:Int))) (hAA:AA≤1000000) (hT:T≤1000000) (hB:ZV 47 3 w gB B) (hA:ZV 47 3 w gA A) (lA:(zl A).length≤1000000000) (lB:(zl B).length≤1000000000):
 Calls Tryz.prog 125 #[v,.pointer (some ⟨gB,0,none⟩),.pointer (some ⟨gA,0,none⟩)] w fun e w'=>e=.returned (.int .i64 (cmpI (Y*B) (A*pw k)))∧Below w.heap.size w w':=by
 obtain ⟨X,n,ao,cap,rfl,hN,hD2,hX,hn⟩:=hq
 have e:=cmp_nrmK (hD2.trans hD) A B
 have h:=rbCmp_core X A B n ao cap gA gB w hN hB hA (Nat.le_trans (zl_len_bits X AA hX) hAA) (by omega) lA lB
 rw [e] at h
 exact h
end Go.Proofs.YtehhegbkahnhgaaGreatDoor
