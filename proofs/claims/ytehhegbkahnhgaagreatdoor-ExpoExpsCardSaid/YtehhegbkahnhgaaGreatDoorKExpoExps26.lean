/- ExpoExps: what the proof leans on, part 26 (Eg3 Eg4 Eh3 Eg5 Sf4 Sf5 Sf6 Rb0). -/
import Derived.Test.YtehhegbkahnhgaaGreatDoorKExpoExps13
import Derived.Test.YtehhegbkahnhgaaGreatDoorKExpoExps15
import Derived.Test.YtehhegbkahnhgaaGreatDoorKExpoExps18
import Derived.Test.YtehhegbkahnhgaaGreatDoorKExpoExps22
import Derived.Test.YtehhegbkahnhgaaGreatDoorKExpoExps23
import Derived.Test.YtehhegbkahnhgaaGreatDoorKExpoExps25
set_option linter.unusedVariables false
set_option linter.unusedSimpArgs false
namespace Go.Ulp
open Go.RowKit
theorem below_cmp (G c K:Int) (hK:2≤K):cmpI (G*K) (c*K-1)=if G<c then -1 else 1:=by
 by_cases h:G<c
 ·rw [if_pos h]
  have:(G+1)*K≤c*K:=Int.mul_le_mul_of_nonneg_right (by omega) (by omega)
  rw [Int.add_mul,Int.one_mul] at this
  exact cmpI_l (by omega)
 ·rw [if_neg h]
  have:c*K≤G*K:=Int.mul_le_mul_of_nonneg_right (by omega) (by omega)
  exact cmpI_g (by omega)
def Blw (s:Nat) (V c:Int):Prop:=(∀r,cR s V r=if 2*rvs r<c then -1 else 1)∧(∀r,cM s V r= -(if rvs r+rvs (r+1)<c then -1 else 1))∧cmpI V 0=if 0<c then 1 else -1
theorem Blw.rnd {s t:Nat} {V U c mode X:Int} {ch:Bool} (h:Blw s V c) (k:Blw t U c) (r:Rnd s V mode X ch):Rnd t U mode X ch:=
 r.same (fun r=>(h.1 r).trans (k.1 r).symm) (fun r=>(h.2.1 r).trans (k.2.1 r).symm) (h.2.2.trans k.2.2.symm)
theorem blw_of (s:Nat) (c V:Int) (hc:c≠0) (hV:V=c*pw (s+1)-1):Blw (s+2) V c:=by
 have hK:2≤pw (s+1):=by rw [pw_add,show pw 1=2 by decide];have:=pw_pos s;omega
 have e2:pw (s+2)=2*pw (s+1):=by rw [show s+2=s+1+1 from rfl,pw_add (s+1),show pw 1=2 by decide,Int.mul_comm]
 refine ⟨fun r=>?_,fun r=>?_,?_⟩
 ·unfold cR rT
  rw [←below_cmp _ _ _ hK,←hV,e2]
  congr 1
  rw [←Int.mul_assoc,Int.mul_comm (rvs r)]
 ·unfold cM rT
  rw [cmpI_swap,←below_cmp _ _ _ hK,←hV,e2]
  congr 1
  have: ∀a b:Int,cmpI (2*a) (2*b)=cmpI a b:=by intro a b;unfold cmpI;split<;>split<;>(try split)<;>(try split)<;>omega
  rw [←this ((rvs r+rvs (r+1))*pw (s+1)) V,←Int.add_mul]
  generalize rvs r+rvs (r+1)=y
  congr 1
  rw [←Int.mul_assoc,Int.mul_comm y,Int.mul_assoc]
 ·rw [hV]
  by_cases h:0<c
  ·rw [if_pos h]
   have:1*pw (s+1)≤c*pw (s+1):=Int.mul_le_mul_of_nonneg_right (by omega) (by omega)
   exact cmpI_g (by omega)
  ·rw [if_neg h]
   have:c*pw (s+1)≤0:=by
    have:=Int.mul_le_mul_of_nonneg_right (show c≤0 by omega) (show 0≤pw (s+1) by omega)
    rwa [Int.zero_mul] at this
   exact cmpI_l (by omega)
theorem blw_two (c:Int) (hc:c≠0):Blw 2 (2*c-1) c:=by
 have h:=blw_of 0 c (2*c-1) hc (by rw [show pw (0+1)=2 by decide];omega)
 exact h
theorem far_pos (B f M E:Nat) (hB:B≤18014398509481984) (hM:M<9007199254740992) (hM0:0<M) (h:B*2^f<M*2^E):M*2^E<(M*2^E-B*2^f)*2^58:=by
 rcases Nat.le_total E f with he|he
 ·obtain ⟨d,rfl⟩: ∃d,f=E+d:=⟨f-E,by omega⟩
  have e:B*2^(E+d)=B*2^d*2^E:=by rw [Nat.pow_add,Nat.mul_assoc,Nat.mul_comm (2^E)]
  rw [e] at h ⊢
  have P:=Nat.two_pow_pos E
  generalize B*2^d=b at *
  have h1:b<M:=Nat.lt_of_mul_lt_mul_right h
  have h2:(b+1)*2^E≤M*2^E:=Nat.mul_le_mul_right _ h1
  rw [Nat.add_mul] at h2
  have h3:M*2^E<9007199254740992*2^E:=(Nat.mul_lt_mul_right P).2 hM
  generalize M*2^E=k at *
  generalize b*2^E=g at *
  omega
 ·obtain ⟨d,rfl⟩: ∃d,E=f+d:=⟨E-f,by omega⟩
  have e:M*2^(f+d)=M*2^d*2^f:=by rw [Nat.pow_add,Nat.mul_assoc,Nat.mul_comm (2^f)]
  rw [e] at h ⊢
  have P:=Nat.two_pow_pos f
  generalize M*2^d=k at *
  have h1:B<k:=Nat.lt_of_mul_lt_mul_right h
  have h2:(B+1)*2^f≤k*2^f:=Nat.mul_le_mul_right _ h1
  rw [Nat.add_mul] at h2
  have h3:B*2^f≤18014398509481984*2^f:=Nat.mul_le_mul_right _ hB
  generalize k*2^f=k at *
  generalize B*2^f=g at *
  omega
theorem far_neg (B f M E:Nat) (hB:B≤18014398509481984) (hM:M<9007199254740992) (hM0:0<M) (h:M*2^E<B*2^f):M*2^E<(B*2^f-M*2^E)*2^58:=by
 rcases Nat.le_total E f with he|he
 ·obtain ⟨d,rfl⟩: ∃d,f=E+d:=⟨f-E,by omega⟩
  have e:B*2^(E+d)=B*2^d*2^E:=by rw [Nat.pow_add,Nat.mul_assoc,Nat.mul_comm (2^E)]
  rw [e] at h ⊢
  have P:=Nat.two_pow_pos E
  generalize B*2^d=b at *
  have h1:M<b:=Nat.lt_of_mul_lt_mul_right h
  have h2:(M+1)*2^E≤b*2^E:=Nat.mul_le_mul_right _ h1
  rw [Nat.add_mul] at h2
  have h3:M*2^E<9007199254740992*2^E:=(Nat.mul_lt_mul_right P).2 hM
  generalize M*2^E=k at *
  generalize b*2^E=g at *
  omega
 ·obtain ⟨d,rfl⟩: ∃d,E=f+d:=⟨E-f,by omega⟩
  have e:M*2^(f+d)=M*2^d*2^f:=by rw [Nat.pow_add,Nat.mul_assoc,Nat.mul_comm (2^f)]
  rw [e] at h ⊢
  have P:=Nat.two_pow_pos f
  generalize M*2^d=k at *
  have h1:k<B:=Nat.lt_of_mul_lt_mul_right h
  have h2:(k+1)*2^f≤B*2^f:=Nat.mul_le_mul_right _ h1
  rw [Nat.add_mul] at h2
  have h3:B*2^f≤18014398509481984*2^f:=Nat.mul_le_mul_right _ hB
  generalize k*2^f=k at *
  generalize B*2^f=g at *
  omega
theorem far_rel (n neg:Bool) (B f M E:Nat) (hB:B≤18014398509481984) (hM:M<9007199254740992) (hM0:0<M) (h:sg n ((B*2^f:Nat):Int)<sg neg ((M*2^E:Nat):Int)):
 sg n ((B*2^f:Nat):Int)*288230376151711744<sg neg ((M*2^E:Nat):Int)*288230376151711744-((M*2^E:Nat):Int):=by
 have hp:0<M*2^E:=Nat.mul_pos hM0 (Nat.two_pow_pos E)
 have p58:(2:Nat)^58=288230376151711744:=by decide
 cases neg
 ·cases n
  ·have:=far_pos B f M E hB hM hM0 (Int.ofNat_lt.1 h)
   rw [p58] at this
   unfold sg at h ⊢
   simp only [Bool.false_eq_true,if_false] at h ⊢
   omega
  ·unfold sg at h ⊢
   simp only [Bool.false_eq_true,if_false,if_true] at h ⊢
   omega
 ·cases n
  ·unfold sg at h
   simp only [Bool.false_eq_true,if_false,if_true] at h
   omega
  ·have:=far_neg B f M E hB hM hM0 (by
    unfold sg at h
    simp only [if_true] at h
    omega)
   rw [p58] at this
   unfold sg at h ⊢
   simp only [if_true] at h ⊢
   omega
theorem blw_far (neg:Bool) (M E d:Nat) (hM:M<9007199254740992) (hM0:0<M) (hd:d=1075+58) (c:Int) (hc:c=sg neg ((M*2^E:Nat):Int)):Blw 2 (st (c*288230376151711744-(c.natAbs:Int)) (2^d)) c:=by
 have hp:0<M*2^E:=Nat.mul_pos hM0 (Nat.two_pow_pos E)
 have ha:(c.natAbs:Int)=((M*2^E:Nat):Int):=by rw [hc];unfold sg;split<;>omega
 have hP:0<2^d:=Nat.two_pow_pos d
 have ed:((2^d:Nat):Int)=288230376151711744*pw 1075:=by
  rw [←pw_nat,hd,pw_add,show pw 58=288230376151711744 by decide,Int.mul_comm]
 have key: ∀G:Int,(∃n B f,G=sg n ((B*2^f:Nat):Int)∧B≤18014398509481984)→cmpI (G*((2^d:Nat):Int)) ((c*288230376151711744-(c.natAbs:Int))*pw 1075)=if G<c then -1 else 1:=by
  rintro G ⟨n,B,f,hG,hB⟩
  have e1:G*((2^d:Nat):Int)=pw 1075*(G*288230376151711744):=by
   rw [ed]
   generalize pw 1075=P
   rw [←Int.mul_assoc,Int.mul_comm]
  rw [e1,Int.mul_comm (c*288230376151711744-(c.natAbs:Int)),cmpI_pos_mul _ _ _ (pw_pos _)]
  by_cases h:G<c
  ·rw [if_pos h]
   have:=far_rel n neg B f M E hB hM hM0 (by rw [←hG,←hc];exact h)
   rw [←hG,←hc,←ha] at this
   exact cmpI_l this
  ·rw [if_neg h]
   exact cmpI_g (by omega)
 refine ⟨fun r=>?_,fun r=>?_,?_⟩
 ·rw [cR_st _ _ hP]
  apply key
  obtain ⟨q,h,n,e,hq⟩:=rT_rep 1 r
  refine ⟨n,q,h+1,?_,by omega⟩
  rw [←e]
  unfold rT
  rw [show pw 1=2 by decide,Int.mul_comm]
 ·rw [cM_st _ _ hP]
  congr 1
  apply key
  obtain ⟨q,h,n,e,hq⟩:=rT_mid_rep 0 r
  refine ⟨n,2*q+1,h,?_,by omega⟩
  have e':rT 0 r+rT 0 (r+1)=sg n (((2*q+1)*2^h:Nat):Int):=e
  rw [←e']
  unfold rT
  rw [pw_zero,Int.mul_one,Int.mul_one]
 ·rw [st_sign _ _ hP]
  by_cases h:0<c
  ·rw [if_pos h];exact cmpI_g (by omega)
  ·rw [if_neg h];exact cmpI_l (by omega)
def topD (D:Dy):Int:=(bl D.1.natAbs:Int)+D.2-1
def bsX (D:Dy) (side mode:Int):Int:=numX (besNeg (decide (D.1<0)) D.1.natAbs side) (besM (decide (D.1<0)) D.1.natAbs side) (besE D.1.natAbs D.2 side) mode
def bsC (D:Dy) (side mode:Int):Bool:=numC (besNeg (decide (D.1<0)) D.1.natAbs side) (besM (decide (D.1<0)) D.1.natAbs side) (besE D.1.natAbs D.2 side) mode
theorem fv_m1:fv 13830554455654793216=nrm (-1) 0:=by
 have h:=nrm_scale (-1) (-52) 52
 rw [show (-1:Int)*pw 52= -4503599627370496 by decide] at h
 exact h
def LpSaid (x mode X:Int) (ch:Bool):Prop:=
 if classOf x=5∨13830554455654793216<x then X=9221120237041090560∧ch=false else if x=13830554455654793216 then X=18442240474082181120∧ch=false else if classOf x=1∨x=9218868437227405312 then X=x∧ch=false else if topD (fv x)< -60 then X=bsX (fv x) (-1) mode∧ch=bsC (fv x) (-1) mode else ch=true∧LnR (addD (fv x) (nrm 1 0)).1.natAbs (addD (fv x) (nrm 1 0)).2 mode X
theorem LpSaid.uniq {x mode X Y:Int} {c d:Bool} (h:LpSaid x mode X c) (k:LpSaid x mode Y d):X=Y∧c=d:=by
 unfold LpSaid at h k
 split at h
 ·rename_i h1;rw [if_pos h1] at k;exact ⟨h.1.trans k.1.symm,h.2.trans k.2.symm⟩
 ·rename_i h1;rw [if_neg h1] at k
  split at h
  ·rename_i h1;rw [if_pos h1] at k;exact ⟨h.1.trans k.1.symm,h.2.trans k.2.symm⟩
  ·rename_i h1;rw [if_neg h1] at k
   split at h
   ·rename_i h1;rw [if_pos h1] at k;exact ⟨h.1.trans k.1.symm,h.2.trans k.2.symm⟩
   ·rename_i h1;rw [if_neg h1] at k
    split at h
    ·rename_i h1;rw [if_pos h1] at k;exact ⟨h.1.trans k.1.symm,h.2.trans k.2.symm⟩
    ·rename_i h1;rw [if_neg h1] at k;exact ⟨h.2.uniq k.2,h.1.trans k.1.symm⟩
theorem bes_bd9 (n:Bool) (M:Nat) (e side:Int) (hM:M<2^53) (he: -2000≤e∧e≤2000) (hs:side= -1∨side=1):(limbs (besM n M side)).length≤10∧(-5000≤besE M e side∧besE M e side≤5000)∧(besM n M side=0→besE M e side=0):=by
 have hs0:side≠0:=by omega
 refine ⟨?_,?_,?_⟩
 ·refine len_le (k:=118) ?_ (by omega)
  unfold besM
  rw [if_neg hs0]
  split
  ·exact Nat.one_le_two_pow
  ·have h8:M*2^64+1≤2^118:=by
    have:M*2^64≤2^53*2^64:=Nat.mul_le_mul_right _ (Nat.le_of_lt hM)
    have e2:(2:Nat)^53*2^64+1≤2^118:=by decide
    exact Nat.le_trans (Nat.succ_le_succ this) e2
   generalize M*2^64=y at *
   generalize 2^118=u at *
   split<;>omega
 ·unfold besE
  rw [if_neg hs0]
  split<;>omega
 ·unfold besM
  rw [if_neg hs0]
  split
  ·intro h;omega
  ·rename_i h
   have:0<M*2^64:=Nat.mul_pos (by omega) (by decide)
   have e9:M*2^64≠1:=by omega
   split<;>intro h2<;>omega
def Fact.ln (m:Nat) (e mode:Int):Fact:=⟨fun v _=> ∃X,LnR m e mode X∧v=.tuple #[.int .u64 X,.bool true,.int .i64 0],fun _ _ _ h _=>h⟩
end Go.Ulp
namespace Go.Proofs.YtehhegbkahnhgaaGreatDoor
open Go.RowKit Go.Ulp
set_option maxHeartbeats 4000000
set_option maxRecDepth 100000
theorem one9_any (w:World) (hT:Tab 0 w):Calls Tryz.prog 25 #[] w (RetVD w (nrm 1 0)):=by
 obtain ⟨L1,hL1⟩: ∃L,L=limbs 1:=⟨_,rfl⟩
 have OF:=hid (show ∀w,Calls Tryz.prog 66 #[.int .u64 1] w fun e w'=> ∃a c,e=.returned (.slice a L1.length c)∧Ns .u32 w' a c L1∧Below w.heap.size w w' from fun w=>by rw [hL1];exact (natOf_any 1 (by omega) w).mono (fun _ _ h=>by obtain ⟨a,h1,h2,h3⟩:=h;exact ⟨a,_,h1,h2,h3⟩))
 have NO:=hid (show ∀a c w,Ns .u32 w a c L1→Tab 0 w→Calls Tryz.prog 65 #[.bool false,.slice a L1.length c,.int .i64 0] w (RetVD w (nrm 1 0)) from fun a c w h t=>by rw [hL1] at h ⊢;exact normD_any false a c 1 0 w h (by decide) (by omega) t)
 clear hL1
 have yb:=below_alloc w (.cells #[.bool false,.slice none 0 0,.int .i64 0] 38)
 have zR:QL 38 (w.alloc (.cells #[.bool false,.slice none 0 0,.int .i64 0] 38)) w.heap.size false (.slice none 0 0) 0:=QL.made rfl
 have HT:=hid (hT.below yb)
 clear hT
 go_enter Tryz.func25,Tryz.ntmps25
 go_wp2_with (go_at_call 66;(with_reducible refine (OF.out _).mono ?_);rintro en w1 ⟨a1,c1,rfl,n1,hb1⟩)
 go_wp2_with ((go_at_call 65;(with_reducible refine (NO.out _ _ _ n1 (HT.out.below hb1)).mono ?_);rintro en w2 ⟨v2,rfl,⟨a2,c2,rfl,n2⟩,hb2⟩;have zR2:=(zR.below hb1).below hb2;obtain ⟨⟨k0,k1,f0,f1,hs2⟩,k2,f2⟩:=id zR2))
 refine bodyPost_ret (by simp [results,Tryz.results25,go_sem,k0,k1,k2];try rfl) rfl ?_
 exact ⟨_,rfl,⟨a2,c2,rfl,n2.set3 zR2 (by intro x h;cases h) _ _ _⟩,Go.Ulp.Below.put3 (below_trans (below_trans yb hb1) hb2) (Nat.le_refl _) _ _ _⟩
theorem top9_any (v:Value) (D:Dy) (w:World) (hv:VD w D v) (hl:(limbs D.1.natAbs).length≤10000) (he: -100000≤D.2∧D.2≤100000):Calls Tryz.prog 21 #[v] w fun e w'=>e=.returned (.int .i64 (topD D))∧Below w.heap.size w w':=by
 obtain ⟨a,c,rfl,h0⟩:=hv
 have LE:=hid (fun w h=>natLen_any a c D.1.natAbs w h (by omega))
 have H:=hid h0
 have hb:=bl_len D.1.natAbs 10000 hl
 obtain ⟨b,hbb⟩: ∃b,b=bl D.1.natAbs:=⟨_,rfl⟩
 have HE:=hid (show topD D=(b:Int)+D.2-1 by unfold topD;rw [hbb])
 rw [←hbb] at LE hb
 have zA:QL 38 (w.alloc (.cells #[.bool (decide (D.1<0)),.slice a (limbs D.1.natAbs).length c,.int .i64 D.2] 38)) w.heap.size (decide (D.1<0)) (.slice a (limbs D.1.natAbs).length c) D.2:=QL.made rfl
 have yb0:=below_alloc w (.cells #[.bool (decide (D.1<0)),.slice a (limbs D.1.natAbs).length c,.int .i64 D.2] 38)
 have hw1:IntKind.i64.wrap ((b:Int)+D.2)=(b:Int)+D.2:=IntWalk.i64_in _ (by omega)
 have hw2:IntKind.i64.wrap ((b:Int)+D.2-1)=(b:Int)+D.2-1:=IntWalk.i64_in _ (by omega)
 clear h0 hl he hb hbb
 rw [HE.out]
 go_enter Tryz.func21,Tryz.ntmps21
 go_upto_region 1 with fail
 refine wp_region_grow 8 [3,4,5,6,7,8,9,2] [Fact.is (.pointer (some ⟨w.heap.size,1,none⟩)),Fact.is (.slice a (limbs D.1.natAbs).length c),Fact.is (.int .i64 (b:Int)),Fact.is (.pointer (some ⟨w.heap.size,2,none⟩)),Fact.is (.int .i64 D.2),Fact.is (.int .i64 ((b:Int)+D.2)),Fact.is (.int .i64 ((b:Int)+D.2-1)),Fact.is (.int .i64 ((b:Int)+D.2-1))] (by kernel_rfl) (by kernel_rfl) ⟨?o0,?o1,?o2,?o3,?o4,?o5,?o6,?o7,trivial⟩ ?after
 case o0=>(refine oQ rfl ?_;intro ρ w1 R hcon hfn hρ hb hp hR;have e1:ρ (.tmp 1)=.pointer (some ⟨w.heap.size,0,none⟩):=hρ.tmp 1 rfl;clear hρ hp;unfold OpRun;go_simp;exact hR _ _ (Below.refl _ _) rfl)
 case o1=>(refine oQ rfl ?_;intro ρ w1 R hcon hfn hρ hb hp hR;have e3:ρ (.tmp 3)=_:=hp 0 3 rfl rfl;obtain ⟨⟨j0,j1,-,-,-⟩,j2,-⟩:=zA.below hb;clear hρ hp;unfold OpRun;go_simp;exact hR _ _ (Below.refl _ _) rfl)
 case o2=>(refine oQ rfl ?_;intro ρ w1 R hcon hfn hρ hb hp hR;have e4:ρ (.tmp 4)=_:=hp 1 4 rfl rfl;clear hρ hp;unfold OpRun;go_simp;(refine (LE.out _ (H.out.below (below_trans yb0 hb))).mono ?_;rintro e wn ⟨rfl,rfl⟩;exact ⟨_,rfl,hR _ _ (Below.refl _ _) rfl⟩))
 case o3=>(refine oQ rfl ?_;intro ρ w1 R hcon hfn hρ hb hp hR;have e1:ρ (.tmp 1)=.pointer (some ⟨w.heap.size,0,none⟩):=hρ.tmp 1 rfl;clear hρ hp;unfold OpRun;go_simp;exact hR _ _ (Below.refl _ _) rfl)
 case o4=>(refine oQ rfl ?_;intro ρ w1 R hcon hfn hρ hb hp hR;have e6:ρ (.tmp 6)=_:=hp 3 6 rfl rfl;obtain ⟨⟨j0,j1,-,-,-⟩,j2,-⟩:=zA.below hb;clear hρ hp;unfold OpRun;go_simp;exact hR _ _ (Below.refl _ _) rfl)
 case o5=>(refine oQ rfl ?_;intro ρ w1 R hcon hfn hρ hb hp hR;have e5:ρ (.tmp 5)=_:=hp 2 5 rfl rfl;have e7:ρ (.tmp 7)=_:=hp 4 7 rfl rfl;clear hρ hp;unfold OpRun;go_simp;exact hR _ _ (Below.refl _ _) rfl)
 case o6=>(refine oQ rfl ?_;intro ρ w1 R hcon hfn hρ hb hp hR;have e8:ρ (.tmp 8)=_:=hp 5 8 rfl rfl;clear hρ hp;unfold OpRun;go_simp;exact hR _ _ (Below.refl _ _) rfl)
 case o7=>(refine oQ rfl ?_;intro ρ w1 R hcon hfn hρ hb hp hR;have e9:ρ (.tmp 9)=_:=hp 6 9 rfl rfl;clear hρ hp;unfold OpRun;go_simp;exact hR _ _ (Below.refl _ _) rfl)
 case after=>
  intro u wn hb hf
  have e2:u 2=_:=hf 7 2 (by omega) rfl
  clear hf
  simp only [putAll,Act.put,List.setIfInBounds_toArray,List.set_cons_zero,List.set_cons_succ,List.drop_succ_cons,List.drop_zero,List.drop_nil]
  rw [e2]
  go_wp2_with fail
  refine bodyPost_ret (by simp [results,Tryz.results21,go_sem];try rfl) rfl ?_
  exact ⟨rfl,below_trans yb0 hb⟩
theorem num9_any (n:Bool) (a:Option Addr) (c m:Nat) (e mode:Int) (w:World) (h0:Ns .u32 w a c (limbs m)) (hm:(limbs m).length≤4294967296) (he: -100000000000≤e∧e≤100000000000) (hz:m=0→e=0):
 Calls Tryz.prog 22 #[.agg #[.bool n,.slice a (limbs m).length c,.int .i64 e],.int .i64 mode] w (RetX3 w (numX n m e mode) (numC n m e mode) 0):=by
 have NU:=hid (fun w h=>number_any n a c m e mode w h hm he hz)
 have yb:=below_alloc w (.cells #[.bool n,.slice a (limbs m).length c,.int .i64 e] 38)
 have zA:QL 38 (w.alloc (.cells #[.bool n,.slice a (limbs m).length c,.int .i64 e] 38)) w.heap.size n (.slice a (limbs m).length c) e:=QL.made rfl
 obtain ⟨⟨j0,j1,-⟩,j2,-⟩:=id zA
 have H:=hid (h0.below yb)
 clear h0 hm he hz
 generalize numX n m e mode=X at *
 generalize numC n m e mode=C at *
 go_enter Tryz.func22,Tryz.ntmps22
 go_wp2_with (go_at_call 68;(with_reducible refine (NU.out _ H.out).mono ?_);rintro en w1 ⟨rfl,hb1⟩)
 refine bodyPost_ret (by simp [results,Tryz.results22,go_sem];try rfl) rfl ?_
 exact ⟨rfl,below_trans yb hb1⟩
end Go.Proofs.YtehhegbkahnhgaaGreatDoor
namespace Go.Ulp
open Go.RowKit
theorem mul_two_le {k W:Nat} (h:k≤2^W):k+k≤2^(W+1):=by rw [Nat.pow_succ];omega
theorem sep_pos_odd {D g pl:Nat} (hD:0<D) {y:Rat} {x:PP} (hy:0≤y) (hN:NoFr g pl y) (h:InD D y x) (h01:x.1≤x.2) (W:Nat) (hW:x.2≤x.1+2^W) (hlow:D≤x.1) (hp:2^(W+1+g)≤D) (hpl:2^pl≤D):
 x.1*2^pl/D=x.2*2^pl/D∧x.1*2^pl%D≠0∧x.2*2^pl%D≠0:=by
 have f1:=sep_pos (pl:=pl) hD hy hN h h01 W hW (Nat.le_trans (Nat.pow_le_pow_right (by omega) (by omega)) hp)
 have P:=Nat.two_pow_pos pl
 have hw2:=mul_two_le (Nat.le_refl (2^W))
 have w1:=Nat.two_pow_pos W
 have hin2:InD D y (x.1-1,x.2):=by
  obtain ⟨⟨T,a⟩,b⟩:=h
  refine ⟨⟨T,?_⟩,b⟩
  have:((x.1-1:Nat):Rat)≤(x.1:Rat):=natle (Nat.sub_le _ _)
  show ((x.1-1:Nat):Rat)≤_
  grind
 have f2:=sep_pos (pl:=pl) hD hy hN hin2 (by show x.1-1≤x.2;omega) (W+1) (by show x.2≤x.1-1+_;omega) hp
 have g2:(x.1-1)*2^pl/D=x.2*2^pl/D:=f2
 clear f2 hN h hin2 hp
 have e1:(x.1-1)*2^pl+2^pl=x.1*2^pl:=by
  rw [←Nat.succ_mul];congr 1;omega
 have n1:x.1*2^pl%D≠0:=by
  intro hz
  have hd1:=Nat.div_add_mod (x.1*2^pl) D
  rw [hz,Nat.add_zero] at hd1
  have hlt:(x.1-1)*2^pl<D*(x.1*2^pl/D):=by rw [hd1];omega
  have:=Nat.div_lt_of_lt_mul hlt
  omega
 refine ⟨f1,n1,?_⟩
 intro hz
 have hd1:=Nat.div_add_mod (x.2*2^pl) D
 rw [hz,Nat.add_zero] at hd1
 have h3:=Nat.div_mul_le_self (x.1*2^pl) D
 rw [f1,Nat.mul_comm,hd1] at h3
 have h4:x.1*2^pl≤x.2*2^pl:=Nat.mul_le_mul_right _ h01
 have h5:x.1*2^pl=x.2*2^pl:=by omega
 rw [h5] at n1
 exact n1 hz
theorem sep_neg_odd {D g pl:Nat} (hD:0<D) {y:Rat} {x:PP} (hy:0≤y) (hN:NoFr g pl y) (h:InD D y x) (h01:x.1≤x.2) (W C:Nat) (hW:x.2≤x.1+2^W) (hlow:D≤x.1) (hC:x.2≤D*2^C) (hp:2^(W+4*C+8+g)≤D) (hplp:2^pl≤D):
 D*D/x.2*2^pl/D=(D*D/x.1+1)*2^pl/D∧D*D/x.2*2^pl%D≠0∧(D*D/x.1+1)*2^pl%D≠0:=by
 have f1:=sep_neg (pl:=pl) hD hy hN h h01 W C hW hlow hC (Nat.le_trans (Nat.pow_le_pow_right (by omega) (by omega)) hp) hplp
 obtain ⟨δ,hδ⟩: ∃δ,δ=2^(2*C+1):=⟨_,rfl⟩
 have hδD:δ≤D:=by rw [hδ];exact Nat.le_trans (Nat.pow_le_pow_right (by omega) (by omega)) hp
 have c1:1≤2^C:=Nat.two_pow_pos C
 have hin2:InD D y (x.1,x.2+δ):=by
  obtain ⟨a,b⟩:=h
  refine ⟨a,fun T=>?_⟩
  have:(x.2:Rat)≤((x.2+δ:Nat):Rat):=natle (Nat.le_add_right _ _)
  have:=b T
  show _≤((x.2+δ:Nat):Rat)
  grind
 have hw2:x.2+δ≤x.1+2^(W+2*C+2):=by
  have a1:2^W≤2^(W+2*C+1):=Nat.pow_le_pow_right (by omega) (by omega)
  have a2:δ≤2^(W+2*C+1):=by rw [hδ];exact Nat.pow_le_pow_right (by omega) (by omega)
  have a3:2^(W+2*C+2)=2^(W+2*C+1)*2:=Nat.pow_succ 2 (W+2*C+1)
  omega
 have hC2:x.2+δ≤D*2^(C+1):=by
  have a1:D*1≤D*2^C:=Nat.mul_le_mul_left _ c1
  have a2:D*2^(C+1)=D*2^C*2:=by rw [Nat.pow_succ,Nat.mul_assoc]
  omega
 have f2:=sep_neg (pl:=pl) hD hy hN hin2 (by show x.1≤x.2+δ;omega) (W+2*C+2) (C+1) hw2 hlow hC2 (Nat.le_trans (Nat.pow_le_pow_right (by omega) (by omega)) hp) hplp
 have g2:D*D/(x.2+δ)*2^pl/D=(D*D/x.1+1)*2^pl/D:=f2
 clear f2 hN h hin2 hw2 hC2
 have hx2:0<x.2:=by omega
 obtain ⟨l,hl⟩: ∃l,l=D*D/x.2:=⟨_,rfl⟩
 have l1:D*D<(l+1)*x.2:=by rw [hl];exact div_lt_succ _ _ hx2
 rw [←hl] at f1 ⊢
 have hul:l+1≤D*D/x.1+1:=by
  rw [hl]
  exact Nat.add_le_add_right (Nat.div_le_div_left h01 (by omega)) 1
 have big:D<(l+1)*2^C:=by
  have a1:(l+1)*x.2≤(l+1)*(D*2^C):=Nat.mul_le_mul_left _ hC
  have a2:(l+1)*(D*2^C)=D*((l+1)*2^C):=Nat.mul_left_comm _ _ _
  have a3:D*D<D*((l+1)*2^C):=by omega
  exact Nat.lt_of_mul_lt_mul_left a3
 have hC8:2^C*2≤D:=Nat.le_trans (by rw [←Nat.pow_succ];exact Nat.pow_le_pow_right (by omega) (by omega)) hp
 have lpos:1≤l:=by
  rcases Nat.eq_zero_or_pos l with h0|h0
  ·exfalso
   rw [h0,Nat.zero_add,Nat.one_mul] at big
   omega
  ·exact h0
 have hlδ:x.2≤l*δ:=by
  have a1:δ=2^C*(2*2^C):=by
   rw [hδ,show 2*C+1=C+(1+C) by omega,Nat.pow_add,Nat.pow_add]
  have a2:(l+1)*2^C≤l*(2*2^C):=by
   have:(l+1)*2^C≤(l+l)*2^C:=Nat.mul_le_mul_right _ (by omega)
   have e:(l+l)*2^C=l*(2*2^C):=by rw [←Nat.two_mul,Nat.mul_comm 2 l,Nat.mul_assoc]
   omega
  have a3:D*2^C≤l*(2*2^C)*2^C:=Nat.mul_le_mul_right _ (by omega)
  have a4:l*(2*2^C)*2^C=l*δ:=by rw [a1,Nat.mul_assoc,Nat.mul_comm (2*2^C)]
  omega
 have hlt:D*D/(x.2+δ)<l:=by
  apply Nat.div_lt_of_lt_mul
  have a1:(x.2+δ)*l=l*x.2+l*δ:=by rw [Nat.mul_comm,Nat.mul_add]
  have a2:(l+1)*x.2=l*x.2+x.2:=Nat.succ_mul _ _
  omega
 have P:=Nat.two_pow_pos pl
 have n1:l*2^pl%D≠0:=by
  intro hz
  have hd1:=Nat.div_add_mod (l*2^pl) D
  rw [hz,Nat.add_zero] at hd1
  have h3:=Nat.div_mul_le_self (D*D/(x.2+δ)*2^pl) D
  rw [g2,←f1,Nat.mul_comm,hd1] at h3
  have:=(Nat.mul_lt_mul_right P).2 hlt
  omega
 refine ⟨f1,n1,?_⟩
 intro hz
 have hd1:=Nat.div_add_mod ((D*D/x.1+1)*2^pl) D
 rw [hz,Nat.add_zero] at hd1
 have h3:=Nat.div_mul_le_self (l*2^pl) D
 rw [f1,Nat.mul_comm,hd1] at h3
 have:=(Nat.mul_lt_mul_right P).2 (show l<D*D/x.1+1 by omega)
 omega
def ExB (neg:Bool) (y:Rat) (D:Nat) (x:PP):Prop:=if neg=true then (∀T,(x.1:Rat)*EE y T≤(D:Rat))∧ ∃T,(D:Rat)≤(x.2:Rat)*EE y T else InD D y x
theorem exB_pos {y:Rat} {D:Nat} {x:PP} (h:InD D y x):ExB false y D x:=by unfold ExB;rw [if_neg (by decide)];exact h
theorem exB_neg {y:Rat} {D:Nat} {x:PP} (hy:0≤y) (hD:0<D) (h:InD D y x) (hx:0<x.1) (hx2:0<x.2):ExB true y D (D*D/x.2,D*D/x.1+1):=by
 obtain ⟨⟨T,a⟩,b⟩:=h
 have P:(0:Rat)<(D:Rat):=Rat.natCast_pos.2 hD
 unfold ExB
 rw [if_pos rfl]
 constructor
 ·intro S
  have h1:=natle (Nat.div_mul_le_self (D*D) x.2)
  rw [cast_mul,cast_mul] at h1
  have h2:=Rat.mul_le_mul_of_nonneg_left (b S) (Rat.natCast_nonneg (a:=D*D/x.2))
  show ((D*D/x.2:Nat):Rat)*EE y S≤_
  apply Rat.le_of_mul_le_mul_left _ P
  grind
 ·refine ⟨T,?_⟩
  have h1:=natle (Nat.le_of_lt (div_lt_succ (D*D) x.1 hx))
  rw [cast_mul,cast_mul] at h1
  have h2:=Rat.mul_le_mul_of_nonneg_left a (Rat.natCast_nonneg (a:=D*D/x.1+1))
  show _≤((D*D/x.1+1:Nat):Rat)*EE y T
  apply Rat.le_of_mul_le_mul_left _ P
  grind
theorem ex_cross {neg:Bool} {y:Rat} {D E:Nat} {x z:PP} (hy:0≤y) (h:ExB neg y D x) (k:ExB neg y E z):x.1*E≤z.2*D:=by
 apply Rat.natCast_le_natCast.1
 rw [cast_mul,cast_mul]
 unfold ExB at h k
 cases neg
 ·rw [if_neg (by decide)] at h k
  obtain ⟨⟨T,a⟩,-⟩:=h
  have b:=k.2 T
  have a2:=Rat.mul_le_mul_of_nonneg_right a (Rat.natCast_nonneg (a:=E))
  have b2:=Rat.mul_le_mul_of_nonneg_left b (Rat.natCast_nonneg (a:=D))
  grind
 ·rw [if_pos rfl] at h k
  obtain ⟨-,T,b⟩:=k
  have a:=h.1 T
  have b2:=Rat.mul_le_mul_of_nonneg_left b (Rat.natCast_nonneg (a:=x.1))
  have a2:=Rat.mul_le_mul_of_nonneg_left a (Rat.natCast_nonneg (a:=z.2))
  grind
def oD (o:Bool) (D:Nat):Int:=if o=true then (D:Int) else 0
def ExR (neg:Bool) (y:Rat) (o:Bool) (mode X:Int):Prop:= ∃(D:Nat) (x:PP) (c1 c2:Bool),0<D∧ExB neg y D x∧Rnd 2 (st ((x.1:Int)-oD o D) D) mode X c1∧Rnd 2 (st ((x.2:Int)-oD o D) D) mode X c2∧st ((x.1:Int)-oD o D) D≠0∧st ((x.2:Int)-oD o D) D≠0
theorem off_le (o:Bool) {a b D E:Nat} (h:a*E≤b*D):((a:Int)-oD o D)*(E:Int)≤((b:Int)-oD o E)*(D:Int):=by
 have h2:(a:Int)*(E:Int)≤(b:Int)*(D:Int):=by rw [←Int.natCast_mul,←Int.natCast_mul];exact Int.ofNat_le.2 h
 unfold oD
 rw [Int.sub_mul,Int.sub_mul]
 cases o
 ·simp only [Bool.false_eq_true,if_false,Int.zero_mul,Int.sub_zero];exact h2
 ·simp only [if_true]
  rw [Int.mul_comm (E:Int) (D:Int)]
  omega
theorem ExR.uniq {neg:Bool} {y:Rat} {o:Bool} {mode X Y:Int} (hy:0≤y) (h:ExR neg y o mode X) (k:ExR neg y o mode Y):X=Y:=by
 obtain ⟨D,x,c1,c2,hD,h1,h2,h3,h4,h5⟩:=h
 obtain ⟨E,z,d1,d2,hE,k1,k2,k3,k4,k5⟩:=k
 exact rnd_two h2 h3 k2 k3 (st_mono hD hE (off_le o (ex_cross hy h1 k1))) (st_mono hE hD (off_le o (ex_cross hy k1 h1))) h4 h5 k4 k5
theorem st_off (x:Int) (D:Nat) (hD:0<D):st (x-(D:Int)) D=st x D-2*pw 1075:=by
 unfold st
 have e:(x-(D:Int))*pw 1075=x*pw 1075+(-pw 1075)*(D:Int):=by rw [Int.sub_mul,Int.neg_mul,Int.mul_comm (D:Int)];omega
 rw [e,Int.add_mul_ediv_right _ _ (by omega),Int.add_mul_emod_self_right]
 omega
theorem st_nat_odd {a b D pl:Nat} (hpl:pl=1075) (h:a*2^pl/D=b*2^pl/D∧a*2^pl%D≠0∧b*2^pl%D≠0): ∃q:Int,st (a:Int) D=2*q+1∧st (b:Int) D=2*q+1:=by
 have e: ∀x:Nat,(x:Int)*pw 1075=((x*2^pl:Nat):Int):=fun x=>by rw [←hpl,pw_nat,Int.natCast_mul]
 refine ⟨((a*2^pl/D:Nat):Int),?_,?_⟩
 ·unfold st
  rw [e a,←Int.natCast_ediv,←Int.natCast_emod,if_neg (by omega)]
 ·unfold st
  rw [e b,←Int.natCast_ediv,←Int.natCast_emod,if_neg (by omega),h.1]
theorem st_odd_off (o:Bool) {a b:Int} {D:Nat} (hD:0<D) (h: ∃q:Int,st a D=2*q+1∧st b D=2*q+1): ∃q:Int,st (a-oD o D) D=2*q+1∧st (b-oD o D) D=2*q+1:=by
 obtain ⟨q,h1,h2⟩:=h
 cases o
 ·refine ⟨q,?_,?_⟩
  ·show st (a-0) D=_;rw [Int.sub_zero];exact h1
  ·show st (b-0) D=_;rw [Int.sub_zero];exact h2
 ·refine ⟨q-pw 1075,?_,?_⟩
  ·show st (a-(D:Int)) D=_;rw [st_off a D hD,h1];generalize pw 1075=P;omega
  ·show st (b-(D:Int)) D=_;rw [st_off b D hD,h2];generalize pw 1075=P;omega
def PI (ti:TypeId) (w:World) (x:Int×Int) (v:Value):Prop:= ∃a c b d,v=.agg #[.bool (zneg x.1),.slice a (zl x.1).length c,.bool (zneg x.2),.slice b (zl x.2).length d]∧Nz ti w a c (zl x.1)∧Nz ti w b d (zl x.2)
def RetPI (ti:TypeId) (w:World) (x:Int×Int) (e:Ending) (w':World):Prop:= ∃v,e=.returned v∧PI ti w' x v∧Below w.heap.size w w'
theorem PZ.pi {ti:TypeId} {w:World} {x:PP} {v:Value} (h:PZ ti w x v):PI ti w ((x.1:Int),(x.2:Int)) v:=by
 obtain ⟨a,c,b,d,rfl,h1,h2⟩:=h
 exact ⟨a,c,b,d,by rw [zneg_nat,zneg_nat],h1,h2⟩
theorem zl_le10I {x:Int} {E:Nat} (h:x.natAbs≤10^E):(zl x).length≤E/4+1:=
 Nat.le_trans (zl_len_le (x:=x) (y:=tenZ E) (by unfold tenZ;rw [Int.natAbs_natCast];exact h)) (zl_len_ten4 E)
end Go.Ulp
namespace Go.Proofs.YtehhegbkahnhgaaGreatDoor
open Go.RowKit Go.Ulp
set_option maxHeartbeats 4000000
set_option maxRecDepth 100000
end Go.Proofs.YtehhegbkahnhgaaGreatDoor
namespace Go.Ulp
open Go.RowKit
def RetGI (ti:TypeId) (w:World) (Good:Nat→Int×Int→Prop) (t:Nat) (en:Ending) (w':World):Prop:= ∃x,Good t x∧RetPI ti w x en w'
end Go.Ulp
namespace Go.Proofs.YtehhegbkahnhgaaGreatDoor
open Go.RowKit Go.Ulp
set_option maxHeartbeats 4000000
set_option maxRecDepth 100000
end Go.Proofs.YtehhegbkahnhgaaGreatDoor
namespace Go.Ulp
open Go.RowKit
theorem goodR_sz {m:Nat} {x0:Int} {neg:Bool} {t:Nat} {y:PP} (h:GoodR m x0 neg t y):Sz t y:=by
 obtain ⟨N,b,n1,n2,hy,hE,rfl⟩:=h
 obtain ⟨-,-,szE,-,-⟩:=hE.sizes _ hy
 have low:=eB_low N b (10^t) n1 n2 hE.hb (ten12 hE.t0)
 have hD:=Nat.pow_pos (n:=t) (show 0<10 by omega)
 unfold erP
 split
 ·have m1:(eB N b (10^t) n1 n2).1≤(eB N b (10^t) n1 n2).2:=by
   obtain ⟨⟨a1,a2⟩,⟨f1,f2⟩⟩:=hE.tops _ hy
   exact bMul_mono (bPow_top hD a1 a2 (N/b) (N/b) (Nat.le_refl _)).1 f1
  generalize eB N b (10^t) n1 n2=e at *
  have q1:10^t*10^t/e.1≤10^t:=Nat.div_le_of_le_mul (Nat.mul_le_mul_right _ low)
  have q2:10^t*10^t/e.2≤10^t:=Nat.div_le_of_le_mul (Nat.mul_le_mul_right _ (Nat.le_trans low m1))
  have q3:10^t*10≤10^(t+1650):=by rw [←Nat.pow_succ];exact Nat.pow_le_pow_right (by omega) (by omega)
  constructor
  ·show 10^t*10^t/e.2≤_
   generalize 10^(t+1650)=X at *
   generalize 10^t*10^t/e.2=Y at *
   omega
  ·show 10^t*10^t/e.1+1≤_
   generalize 10^(t+1650)=X at *
   generalize 10^t*10^t/e.1=Y at *
   omega
 ·exact szE
def isDg (b:UInt8):Bool:=decide (48≤b.toNat∧b.toNat≤57)
def dvA (acc:Nat) (L:List UInt8):Nat:=L.foldl (fun a b=>a*10+(b.toNat-48)) acc
def dvl (L:List UInt8):Nat:=dvA 0 L
def AllDg (L:List UInt8):Prop:= ∀b∈L,isDg b=true
theorem dvA_cons (acc:Nat) (b:UInt8) (r:List UInt8):dvA acc (b::r)=dvA (acc*10+(b.toNat-48)) r:=by unfold dvA;rw [List.foldl_cons]
theorem dvA_app (acc:Nat) (A B:List UInt8):dvA acc (A++B)=dvA (dvA acc A) B:=by unfold dvA;rw [List.foldl_append]
theorem dvl_cons (b:UInt8) (r:List UInt8):dvl (b::r)=dvA (b.toNat-48) r:=by unfold dvl;rw [dvA_cons,Nat.zero_mul,Nat.zero_add]
theorem dvA_acc (L:List UInt8): ∀(acc:Nat),dvA acc L=acc*10^L.length+dvl L:=by
 induction L with
 |nil=>intro acc;rw [List.length_nil,Nat.pow_zero,Nat.mul_one];rfl
 |cons b r ih=>
  intro acc
  rw [dvA_cons,ih,dvl_cons,ih,List.length_cons,Nat.pow_succ,Nat.add_mul,Nat.mul_assoc,Nat.mul_comm 10,Nat.add_assoc]
theorem dg_bd {b:UInt8} (h:isDg b=true):48≤b.toNat∧b.toNat≤57:=of_decide_eq_true h
theorem AllDg.tail {b:UInt8} {r:List UInt8} (h:AllDg (b::r)):AllDg r:=fun x hx=>h x (List.mem_cons_of_mem _ hx)
theorem dvl_lt: ∀(L:List UInt8),AllDg L→dvl L<10^L.length
 | [],_=>by show 0<1;omega
 |b::r,h=>by
  have h1:=dvl_lt r h.tail
  have h2:=dg_bd (h b (List.mem_cons_self ..))
  rw [dvl_cons,dvA_acc,List.length_cons,Nat.pow_succ]
  have h3:(b.toNat-48)*10^r.length≤9*10^r.length:=Nat.mul_le_mul_right _ (by omega)
  omega
theorem drop_cons {L:List UInt8} {j:Nat} {b:UInt8} {r:List UInt8} (h:L.drop j=b::r):j<L.length∧L.drop (j+1)=r∧L.getD j 0=b:=by
 have h1:j<L.length:=by
  rcases Nat.lt_or_ge j L.length with h9|h9
  ·exact h9
  ·rw [List.drop_eq_nil_of_le h9] at h;cases h
 have h2:L.drop (j+1)=(L.drop j).drop 1:=by rw [List.drop_drop]
 refine ⟨h1,by rw [h2,h];rfl,?_⟩
 rw [List.drop_eq_getElem_cons h1] at h
 injection h with h3 _
 rw [List.getD_eq_getElem?_getD,List.getElem?_eq_getElem h1];exact h3
theorem run_index {P:Program} {t:TypeId} (ht:P.underlying t=some .string) (L:List UInt8) (j:Nat) (b:UInt8) (r:List UInt8) (h:L.drop j=b::r) (w:World):(Instr.index t (.string (bsOf L)) (.int .i64 (j:Int))).run P w=.ok (.int .u8 (b.toNat:Int)) w:=by
 obtain ⟨h1,-,h3⟩:=drop_cons h
 rw [run_index_string _ _ _ _ _ ht,dif_pos ⟨by omega,by rw [bs_size];omega⟩]
 have key: ∀(n:Nat) (hn:n<(bsOf L).size),n=j→(bsOf L)[n]=b:=by
  rintro n hn rfl
  show L.toArray[n]'(by rw [bs_size] at hn;simpa using hn)=b
  rw [List.getElem_toArray]
  rw [List.getD_eq_getElem?_getD,List.getElem?_eq_getElem h1] at h3
  exact h3
 rw [key _ _ (by omega)]
def rkc (n:Nat) (k:Int):Int:=min (max k (-2500-(n:Int))) 2500
def rdNum (Z n:Nat) (k:Int):Nat:=Z*10^(rkc n k).toNat
def rdDen (n:Nat) (k:Int):Nat:=10^(-(rkc n k)).toNat
end Go.Ulp
namespace Go.Proofs.YtehhegbkahnhgaaGreatDoor
open Go.RowKit Go.Ulp
set_option maxHeartbeats 2000000
set_option maxRecDepth 100000
theorem zDigits_any (L:List UInt8) (w:World) (hL:AllDg L) (hl:L.length≤3100000000):
 Calls Tryz.prog 124 #[.string (bsOf L)] w (RetZD 3 w ((dvl L:Nat):Int)):=by
 obtain ⟨V,hV⟩: ∃V,V=dvl L:=⟨_,rfl⟩
 rw [←hV]
 have hsz:=bs_size L
 go_enter Tryz.func124,Tryz.ntmps124
 go_upto_region 2 with fail
 have n0: ∀w,Nz 3 w none 0 (zl 0):=fun w=>Nz.nil' none 0 (by decide)
 have zz:=zv_made2 (tz:=47) (ti:=3) (w:=w) (x:=0) (y:=0) (n0 _) (n0 _)
 refine wp_worldZ (fun WW=>Below w.heap.size w WW∧ZV 47 3 WW w.heap.size 0∧ZV 47 3 WW (w.heap.size+1) 0) ⟨zz.1,zz.2.1,by first|exact zz.2.2|(have h:=zz.2.2;simpa using h)⟩ ?_
 intro W1 ⟨y1,z2,z3⟩
 obtain ⟨g2,hg2⟩: ∃g,g=w.heap.size:=⟨_,rfl⟩
 obtain ⟨g3,hg3⟩: ∃g,g=w.heap.size+1:=⟨_,rfl⟩
 have b2:w.heap.size≤g2:=by omega
 have b3:w.heap.size≤g3:=by omega
 have gne:g2≠g3:=by omega
 rw [←hg3] at z3 ⊢
 rw [←hg2] at z2 ⊢
 clear hg2 hg3 zz n0
 have Z2:=hid z2
 have Z3:=hid z3
 clear z2 z3
 have HVL:=hid hV
 obtain ⟨E,hE⟩: ∃E:Nat,E=3100000000:=⟨_,rfl⟩
 have HL10:=hid (fun q (h:q<10^E)=>Nat.le_trans (zl_len_le (x:=((q:Nat):Int)) (y:=tenZ E) (by unfold tenZ;rw [Int.natAbs_natCast,Int.natAbs_natCast];omega)) (zl_len_ten4 E))
 clear hV
 go_wp2_with fail
 go_loopw [4,8] (fun s4 s8 wr=> ∃(j q:Nat),s8=.int .i64 (j:Int)∧j≤L.length∧dvA q (L.drop j)=V∧q<10^(E-(L.length-j))∧ZV 47 3 wr g2 0∧ZV 47 3 wr g3 (q:Int)∧Below w.heap.size w wr) (fun _ s8 _=>L.length-(intOf s8).toNat)
 case atStart=>exact ⟨0,0,rfl,by omega,HVL.out.symm,Nat.pow_pos (by omega),Z2.out,Z3.out,y1⟩
 case round=>
  obtain ⟨j,q,rfl,hj,hq,hqb,z2,z3,yr⟩:=hrel
  clear Z2 Z3 y1
  cases hd:L.drop j with
  |nil=>
   have g1: ¬(j:Int)<(L.length:Int):=by
    have:=congrArg List.length hd
    rw [List.length_drop,List.length_nil] at this;omega
   rw [hd] at hq
   have e:q=V:=hq
   subst e
   obtain ⟨a3,c3,zl3,n3⟩:=z3
   obtain ⟨a2,c2,zl2,n2⟩:=z2
   have zst:=zv_store1 (by decide) yr b2 zl2 n3
   obtain ⟨j0,j1,-⟩:=zl3
   obtain ⟨k0,k1,kf0,kf1,kk⟩:=id zl2
   have HS:=hid zst
   clear hd hq hqb zst
   go_wp2_with fail
   have zst:=HS.out
   obtain ⟨a9,c9,zl9,n9⟩:=id zst.2
   obtain ⟨m0,m1,-⟩:=id zl9
   refine bodyPost_ret (by simp [results,Tryz.results124,go_sem,m0,m1];try rfl) rfl ?_
   exact ⟨_,rfl,⟨a9,c9,rfl,n9⟩,zst.1⟩
  |cons b r=>
   obtain ⟨q1,q2,-⟩:=drop_cons hd
   have hix:=run_index (P:=Tryz.prog) Tryz.underlying9 L j b r hd
   have hbd:=dg_bd (hL b (List.mem_of_mem_drop (by rw [hd];exact List.mem_cons_self ..)))
   rw [hd,dvA_cons] at hq
   obtain ⟨d,hdd⟩: ∃d:Nat,d=b.toNat-48:=⟨_,rfl⟩
   rw [←hdd] at hq
   obtain ⟨x,hx⟩: ∃x:Int,x=(b.toNat:Int):=⟨_,rfl⟩
   rw [←hx] at hix
   have wB:IntKind.u8.wrap (x-48)=(d:Int):=by rw [IntKind.wrap_u8];omega
   have wC:IntKind.i64.wrap (d:Int)=(d:Int):=IntWalk.i64_in _ (by omega)
   have wI:IntKind.i64.wrap ((j:Int)+1)=(j:Int)+1:=IntWalk.i64_in _ (by omega)
   have hqb2:q*10+d<10^(E-(L.length-(j+1))):=by
    have h1:(q+1)*10≤10^(E-(L.length-j))*10:=Nat.mul_le_mul_right _ hqb
    rw [←Nat.pow_succ,show (E-(L.length-j)).succ=E-(L.length-(j+1)) by omega] at h1
    omega
   have hpe:10^(E-(L.length-(j+1)))≤10^E:=Nat.pow_le_pow_right (by omega) (by omega)
   have lq:=HL10.out q (by omega)
   have lq2:(zl ((q:Int)*10)).length≤E/4+1:=by
    have h:=HL10.out (q*10) (by omega)
    rw [Int.natCast_mul] at h
    exact h
   have ld:(zl (d:Int)).length≤900000000:=Nat.le_trans (HL10.out d (by omega)) (by omega)
   have HQ:=hid (show dvA (q*10+d) (L.drop (j+1))=V by rw [q2];exact hq)
   have HQB:=hid hqb2
   have l10:(zl 10).length≤900000:=by decide
   have hd10:d<10:=by omega
   clear hd hq hqb hqb2 hpe hbd hx hdd q2
   go_upto_region 5 with fail
   obtain ⟨W4,hW4⟩: ∃W,W=wr:=⟨_,rfl⟩
   subst hW4
   refine wp_region_grow 10 [11,12,13,14,15,16,17,18,19,20] [Fact.z 3 ((q:Int)),Fact.z 3 (10),Fact.z 3 (((q:Int))*(10)),Fact.is (.string (bsOf L)),Fact.is (.int .i64 (j:Int)),Fact.is (.int .u8 x),Fact.is (.int .u8 (d:Int)),Fact.is (.int .i64 (d:Int)),Fact.z 3 ((d:Int)),Fact.z 3 ((((q:Int))*(10))+((d:Int)))] (by kernel_rfl) (by kernel_rfl) ⟨?o0,?o1,?o2,?o3,?o4,?o5,?o6,?o7,?o8,?o9,trivial⟩ ?after
   case o0=>(refine oQ rfl ?_;intro ρ w1 R hcon hfn hρ hb hp hR;have e3:ρ (.tmp 3)=.pointer (some ⟨g3,0,none⟩):=hρ.tmp 3 rfl;obtain ⟨ya9,yc9,yj9,yn9⟩:=ZV.below z3 hb;obtain ⟨j90,j91,-⟩:=yj9;clear hρ hp;unfold OpRun;go_simp;exact hR _ _ (Below.refl _ _) ⟨ya9,yc9,rfl,yn9⟩)
   case o1=>(refine oQ rfl ?_;intro ρ w1 R hcon hfn hρ hb hp hR;clear hρ hp;unfold OpRun;go_simp;(refine (zND _ (by omega) (by omega) _).mono ?_;rintro e wn ⟨v9,rfl,hz9,hbn⟩;exact ⟨_,rfl,hR _ _ hbn hz9⟩))
   case o2=>(refine oQ rfl ?_;intro ρ w1 R hcon hfn hρ hb hp hR;have f11:=hp 0 11 rfl rfl;have f12:=hp 1 12 rfl rfl;clear hρ hp;unfold OpRun;go_simp;(refine (zmulD _ _ _ _ _ f11 f12 (by first|assumption|omega) (by first|assumption|omega)).mono ?_;rintro e wn ⟨v9,rfl,hz9,hbn⟩;exact ⟨_,rfl,hR _ _ hbn hz9⟩))
   case o3=>(refine oQ rfl ?_;intro ρ w1 R hcon hfn hρ hb hp hR;have e0:ρ (.tmp 0)=.string (bsOf L):=hρ.tmp 0 rfl;clear hρ hp;unfold OpRun;go_simp;exact hR _ _ (Below.refl _ _) rfl)
   case o4=>(refine oQ rfl ?_;intro ρ w1 R hcon hfn hρ hb hp hR;have e4:ρ (.tmp 4)=.int .i64 (j:Int):=hρ.tmp 4 rfl;clear hρ hp;unfold OpRun;go_simp;exact hR _ _ (Below.refl _ _) rfl)
   case o5=>(refine oQ rfl ?_;intro ρ w1 R hcon hfn hρ hb hp hR;have e14:ρ (.tmp 14)=_:=hp 3 14 rfl rfl;have e15:ρ (.tmp 15)=_:=hp 4 15 rfl rfl;clear hρ hp;unfold OpRun;go_simp;exact hR _ _ (Below.refl _ _) rfl)
   case o6=>(refine oQ rfl ?_;intro ρ w1 R hcon hfn hρ hb hp hR;have e16:ρ (.tmp 16)=_:=hp 5 16 rfl rfl;clear hρ hp;unfold OpRun;go_simp;exact hR _ _ (Below.refl _ _) rfl)
   case o7=>(refine oQ rfl ?_;intro ρ w1 R hcon hfn hρ hb hp hR;have e17:ρ (.tmp 17)=_:=hp 6 17 rfl rfl;clear hρ hp;unfold OpRun;go_simp;exact hR _ _ (Below.refl _ _) rfl)
   case o8=>(refine oQ rfl ?_;intro ρ w1 R hcon hfn hρ hb hp hR;have e18:ρ (.tmp 18)=_:=hp 7 18 rfl rfl;clear hρ hp;unfold OpRun;go_simp;(refine (zND _ (by omega) (by omega) _).mono ?_;rintro e wn ⟨v9,rfl,hz9,hbn⟩;exact ⟨_,rfl,hR _ _ hbn hz9⟩))
   case o9=>(refine oQ rfl ?_;intro ρ w1 R hcon hfn hρ hb hp hR;have f13:=hp 2 13 rfl rfl;have f19:=hp 8 19 rfl rfl;clear hρ hp;unfold OpRun;go_simp;(refine (zaddD _ _ _ _ _ f13 f19 (by first|assumption|omega) (by first|assumption|omega)).mono ?_;rintro e wn ⟨v9,rfl,hz9,hbn⟩;exact ⟨_,rfl,hR _ _ hbn hz9⟩))
   case after=>
    intro u wn hb hf
    have f20:=hf 9 20 (by omega) rfl
    clear hf
    simp only [putAll,Act.put,List.setIfInBounds_toArray,List.set_cons_zero,List.set_cons_succ,List.drop_succ_cons,List.drop_zero,List.drop_nil]
    obtain ⟨a6,c6,e20,n6⟩:=f20
    rw [e20]
    have yb:=below_trans yr hb
    have z2a:=z2.below hb
    obtain ⟨a3,c3,zl3,n3⟩:=z3.below hb
    have zst:=zv_store1 (by decide) yb b3 zl3 n6
    have z2b:=z2a.set2 (zl3.2.2.2.2) (by decide) gne (.bool (zneg ((q:Int)*10+(d:Int)))) (.slice a6 (zl ((q:Int)*10+(d:Int))).length c6)
    obtain ⟨k0,k1,kf0,kf1,-⟩:=id zl3
    have HZ:=hid (And.intro zst z2b)
    clear z2 z3 z2a hb yr n3 zst z2b e20
    go_wp2_with fail
    go_roundw
    case rel=>exact ⟨j+1,q*10+d,by go_num,by omega,HQ.out,HQB.out,HZ.out.2,HZ.out.1.2,HZ.out.1.1⟩
    case measure=>simp [intOf];omega
end Go.Proofs.YtehhegbkahnhgaaGreatDoor
namespace Go.Ulp
open Go.RowKit
theorem nrm_inj8 {x y e:Int} (h:nrm x e=nrm y e):x=y:=by
 obtain ⟨k,a1,a2⟩:=nrm_rep x e
 obtain ⟨l,b1,b2⟩:=nrm_rep y e
 by_cases hx:x=0
 ·have h3:(nrm y e).1=0:=by rw [←h,hx];rfl
  rw [hx,(nrm_zero_iff _ _).1 h3]
 ·have hy:y≠0:=fun hy=>hx ((nrm_zero_iff x e).1 (by rw [h,hy];rfl))
  have a2:=a2 hx
  have b2:=b2 hy
  rw [h] at a1 a2
  have:k=l:=by omega
  rw [this] at a1
  exact a1.trans b1.symm
theorem nrm_cross {X Y:Int} {n k:Nat} (h:nrm X (-(n:Int))=nrm Y (-(k:Int))):X*pw k=Y*pw n:=by
 have h1:=nrm_scale X (-(n:Int)-k) k
 have h2:=nrm_scale Y (-(n:Int)-k) n
 rw [show -(n:Int)-k+k= -(n:Int) by omega] at h1
 rw [show -(n:Int)-k+n= -(k:Int) by omega] at h2
 exact nrm_inj8 (h1.trans (h.trans h2.symm))
theorem cmp_nrmK {X Y:Int} {n k:Nat} (h:nrm X (-(n:Int))=nrm Y (-(k:Int))) (A B:Int):cmpI (X*B) (A*pw n)=cmpI (Y*B) (A*pw k):=by
 have h1:=nrm_cross h
 have hk:0<pw k:=pw_pos k
 have hn:0<pw n:=pw_pos n
 rw [←cmpI_scale (X*B) (A*pw n) (pw k) hk,←cmpI_scale (Y*B) (A*pw k) (pw n) hn,Int.mul_right_comm X,h1,Int.mul_right_comm Y,Int.mul_right_comm A]
end Go.Ulp
namespace Go.Proofs.YtehhegbkahnhgaaGreatDoor
open Go.RowKit Go.Ulp
set_option maxHeartbeats 2000000
set_option maxRecDepth 100000
theorem rbCmp_core (X A B:Int) (n:Nat) (ao:Option Addr) (cap gA gB:Nat) (w:World) (h0:Nz 3 w ao cap (zl X)) (hB:ZV 47 3 w gB B) (hA:ZV 47 3 w gA A) (lX:(zl X).length≤1000000) (hn:n≤1000000) (lA:(zl A).length≤1000000000) (lB:(zl B).length≤1000000000):
 Calls Tryz.prog 125 #[.agg #[.bool (zneg X),.slice ao (zl X).length cap,.int .i64 (n:Int)],.pointer (some ⟨gB,0,none⟩),.pointer (some ⟨gA,0,none⟩)] w fun e w'=>e=.returned (.int .i64 (cmpI (X*B) (A*pw n)))∧Below w.heap.size w w':=by
 have lP:(zl (pw n)).length≤1000001:=Nat.le_trans (zl_len_pw n) (by omega)
 have q0:QL 49 (w.alloc (.cells #[.bool (zneg X),.slice ao (zl X).length cap,.int .i64 (n:Int)] 49)) w.heap.size (zneg X) (.slice ao (zl X).length cap) (n:Int):=QL.made rfl
 have y0:=below_alloc w (.cells #[.bool (zneg X),.slice ao (zl X).length cap,.int .i64 (n:Int)] 49)
 have zz:ZV 49 3 (w.alloc (.cells #[.bool (zneg X),.slice ao (zl X).length cap,.int .i64 (n:Int)] 49)) w.heap.size X:=⟨ao,cap,q0.1,h0.below y0⟩
 have cc:=q0.2.1
 have kA:=hA.below y0
 have kB:=hB.below y0
 have HXX:=hid lX
 clear h0
 go_enter Tryz.func125,Tryz.ntmps125
 go_upto_region 1 with fail
 refine wp_worldZ (fun WW=>Below w.heap.size w WW∧ZV 49 3 WW w.heap.size X∧WW.cell? ⟨w.heap.size,2,none⟩=some (.int .i64 (n:Int))∧ZV 47 3 WW gA A∧ZV 47 3 WW gB B) ⟨y0,zz,cc,kA,kB⟩ ?_
 intro W1 ⟨yb1,zQ,c2,z1,z2⟩
 obtain ⟨g2,hg2⟩: ∃g,g=w.heap.size:=⟨_,rfl⟩
 rw [←hg2] at zQ c2 ⊢
 clear hg2 q0 y0 zz cc kA kB hA hB
 refine wp_region_grow 10 [5,6,7,8,9,10,11,12,13,14] [Fact.is (.pointer (some ⟨g2,0,none⟩)),Fact.z 3 (X),Fact.z 3 (B),Fact.z 3 ((X)*(B)),Fact.z 3 (A),Fact.is (.pointer (some ⟨g2,2,none⟩)),Fact.is (.int .i64 (n:Int)),Fact.z 3 (pw n),Fact.z 3 ((A)*(pw n)),Fact.is (.int .i64 (cmpI ((X)*(B)) ((A)*(pw n))))] (by kernel_rfl) (by kernel_rfl) ⟨?o0,?o1,?o2,?o3,?o4,?o5,?o6,?o7,?o8,?o9,trivial⟩ ?after
 case o0=>(refine oQ rfl ?_;intro ρ w1 R hcon hfn hρ hb hp hR;have e3:ρ (.tmp 3)=.pointer (some ⟨g2,0,none⟩):=hρ.tmp 3 rfl;clear hρ hp;unfold OpRun;go_simp;exact hR _ _ (Below.refl _ _) rfl)
 case o1=>(refine oQ rfl ?_;intro ρ w1 R hcon hfn hρ hb hp hR;have e5:ρ (.tmp 5)=_:=hp 0 5 rfl rfl;obtain ⟨ya9,yc9,yj9,yn9⟩:=ZV.below zQ hb;obtain ⟨j90,j91,-⟩:=yj9;clear hρ hp;unfold OpRun;go_simp;exact hR _ _ (Below.refl _ _) ⟨ya9,yc9,rfl,yn9⟩)
 case o2=>(refine oQ rfl ?_;intro ρ w1 R hcon hfn hρ hb hp hR;have e1:ρ (.tmp 1)=.pointer (some ⟨gB,0,none⟩):=hρ.tmp 1 rfl;obtain ⟨ya9,yc9,yj9,yn9⟩:=ZV.below z2 hb;obtain ⟨j90,j91,-⟩:=yj9;clear hρ hp;unfold OpRun;go_simp;exact hR _ _ (Below.refl _ _) ⟨ya9,yc9,rfl,yn9⟩)
 case o3=>(refine oQ rfl ?_;intro ρ w1 R hcon hfn hρ hb hp hR;have f6:=hp 1 6 rfl rfl;have f7:=hp 2 7 rfl rfl;clear hρ hp;unfold OpRun;go_simp;(refine (zmulD _ _ _ _ _ f6 f7 (by first|assumption|omega) (by first|assumption|omega)).mono ?_;rintro e wn ⟨v9,rfl,hz9,hbn⟩;exact ⟨_,rfl,hR _ _ hbn hz9⟩))
 case o4=>(refine oQ rfl ?_;intro ρ w1 R hcon hfn hρ hb hp hR;have e2:ρ (.tmp 2)=.pointer (some ⟨gA,0,none⟩):=hρ.tmp 2 rfl;obtain ⟨ya9,yc9,yj9,yn9⟩:=ZV.below z1 hb;obtain ⟨j90,j91,-⟩:=yj9;clear hρ hp;unfold OpRun;go_simp;exact hR _ _ (Below.refl _ _) ⟨ya9,yc9,rfl,yn9⟩)
 case o5=>(refine oQ rfl ?_;intro ρ w1 R hcon hfn hρ hb hp hR;have e3:ρ (.tmp 3)=.pointer (some ⟨g2,0,none⟩):=hρ.tmp 3 rfl;clear hρ hp;unfold OpRun;go_simp;exact hR _ _ (Below.refl _ _) rfl)
 case o6=>(refine oQ rfl ?_;intro ρ w1 R hcon hfn hρ hb hp hR;have e10:ρ (.tmp 10)=_:=hp 5 10 rfl rfl;have j12:=(hb.cell (World.block_lt_of_cell? _ _ c2)).trans c2;clear hρ hp;unfold OpRun;go_simp;exact hR _ _ (Below.refl _ _) rfl)
 case o7=>(refine oQ rfl ?_;intro ρ w1 R hcon hfn hρ hb hp hR;have e11:ρ (.tmp 11)=_:=hp 6 11 rfl rfl;clear hρ hp;unfold OpRun;go_simp;(refine (zpowD n _ (by first|assumption|omega)).mono ?_;rintro e wn ⟨v9,rfl,hz9,hbn⟩;exact ⟨_,rfl,hR _ _ hbn hz9⟩))
 case o8=>(refine oQ rfl ?_;intro ρ w1 R hcon hfn hρ hb hp hR;have f9:=hp 4 9 rfl rfl;have f12:=hp 7 12 rfl rfl;clear hρ hp;unfold OpRun;go_simp;(refine (zmulD _ _ _ _ _ f9 f12 (by first|assumption|omega) (by first|assumption|omega)).mono ?_;rintro e wn ⟨v9,rfl,hz9,hbn⟩;exact ⟨_,rfl,hR _ _ hbn hz9⟩))
 case o9=>(refine oQ rfl ?_;intro ρ w1 R hcon hfn hρ hb hp hR;have f8:=hp 3 8 rfl rfl;have f13:=hp 8 13 rfl rfl;clear hρ hp;unfold OpRun;go_simp;(refine (zcmpD _ _ _ _ _ f8 f13).mono ?_;rintro e wn ⟨rfl,hbn⟩;exact ⟨_,rfl,hR _ _ hbn rfl⟩))
 case after=>
  intro u wn hb hf
  have e14:u 14=_:=hf 9 14 (by omega) rfl
  clear hf
  simp only [putAll,Act.put,List.setIfInBounds_toArray,List.set_cons_zero,List.set_cons_succ,List.drop_succ_cons,List.drop_zero,List.drop_nil]
  rw [e14]
  go_wp2_with fail
  go_ret
  exact ⟨rfl,below_trans yb1 hb⟩
theorem rbCmp_any (v:Value) (D:Dy) (AA T:Nat) (Y A B:Int) (k gA gB:Nat) (w:World) (hq:QD 3 w D AA T v) (hD:D=nrm Y (-(k:Int))) (hAA:AA≤1000000) (hT:T≤1000000) (hB:ZV 47 3 w gB B) (hA:ZV 47 3 w gA A) (lA:(zl A).length≤1000000000) (lB:(zl B).length≤1000000000):
 Calls Tryz.prog 125 #[v,.pointer (some ⟨gB,0,none⟩),.pointer (some ⟨gA,0,none⟩)] w fun e w'=>e=.returned (.int .i64 (cmpI (Y*B) (A*pw k)))∧Below w.heap.size w w':=by
 obtain ⟨X,n,ao,cap,rfl,hN,hD2,hX,hn⟩:=hq
 have e:=cmp_nrmK (hD2.trans hD) A B
 have h:=rbCmp_core X A B n ao cap gA gB w hN hB hA (Nat.le_trans (zl_len_bits X AA hX) hAA) (by omega) lA lB
 rw [e] at h
 exact h
end Go.Proofs.YtehhegbkahnhgaaGreatDoor
