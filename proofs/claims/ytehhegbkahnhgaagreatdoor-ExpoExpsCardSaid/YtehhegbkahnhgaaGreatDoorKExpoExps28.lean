/- ExpoExps: what the proof leans on, part 28 (Eh4 Li1 Li2 Gp24 Si0 Si1 Gp25 Si2 Li3 Eg7 Gp27). -/
import Derived.Test.YtehhegbkahnhgaaGreatDoorKExpoExps13
import Derived.Test.YtehhegbkahnhgaaGreatDoorKExpoExps18
import Derived.Test.YtehhegbkahnhgaaGreatDoorKExpoExps22
import Derived.Test.YtehhegbkahnhgaaGreatDoorKExpoExps24
import Derived.Test.YtehhegbkahnhgaaGreatDoorKExpoExps26
import Derived.Test.YtehhegbkahnhgaaGreatDoorKExpoExps27
set_option linter.unusedVariables false
set_option linter.unusedSimpArgs false
namespace Go.Ulp
open Go.RowKit
theorem off_sz (o:Bool) (p c:Nat) (h:c≤2^(p+201326592)):((c:Int)-oD o (2^p)).natAbs≤2^(p+201326592):=by
 have hD:2^p≤2^(p+201326592):=Nat.pow_le_pow_right (by omega) (by omega)
 unfold oD
 generalize 2^(p+201326592)=Z at *
 generalize 2^p=W at *
 cases o
 ·simp only [Bool.false_eq_true,if_false];omega
 ·simp only [if_true];omega
theorem goodXo_nb {o neg:Bool} {y:Rat} {p:Nat} {D E:Dy} (h:GoodXo o neg y p D E):NB D∧NB E:=by
 obtain ⟨p1,b,-,-,s1,s2,rfl,rfl⟩:=h
 exact ⟨NB_nrm _ p (p+201326592) (off_sz o p _ s1) (by omega) p1,NB_nrm _ p (p+201326592) (off_sz o p _ s2) (by omega) p1⟩
theorem goodXo_fit {o neg:Bool} {y:Rat} {p:Nat} {D E:Dy} (h:GoodXo o neg y p D E):((limbs D.1.natAbs).length≤1100000000∧(-35000000000≤D.2∧D.2≤35000000000))∧((limbs E.1.natAbs).length≤1100000000∧(-35000000000≤E.2∧E.2≤35000000000)):=by
 obtain ⟨p1,b,-,-,s1,s2,rfl,rfl⟩:=h
 have key: ∀x:Int,x.natAbs≤2^(p+201326592)→(limbs (nrm x (-(p:Int))).1.natAbs).length≤1100000000∧(-35000000000≤(nrm x (-(p:Int))).2∧(nrm x (-(p:Int))).2≤35000000000):=by
  intro x hx
  have h':x.natAbs<2^(p+201326592+1):=Nat.lt_of_le_of_lt hx (Nat.pow_lt_pow_right (by omega) (by omega))
  obtain ⟨h1,h2⟩:=nrm_bd x (-(p:Int)) (p+201326592+1) h'
  exact ⟨len_le (Nat.le_of_lt h1) (by omega),by omega⟩
 exact ⟨key _ (off_sz o p _ s1),key _ (off_sz o p _ s2)⟩
theorem add_m1 (x:Int) (p:Nat):addD (nrm x (-(p:Int))) (negD (nrm 1 0))=nrm (x-((2^p:Nat):Int)) (-(p:Int)):=by
 rw [←nrm_neg,←nrm_add x (-(p:Int)) (-1) 0 (-(p:Int)) (.inl (Int.le_refl _)) (.inl (by omega))]
 congr 1
 unfold sc
 rw [show (-(p:Int)- -(p:Int)).toNat=0 by omega,show ((0:Int)- -(p:Int)).toNat=p by omega,pw_zero,pw_nat]
 omega
theorem goodXo_less {neg:Bool} {y:Rat} {p:Nat} {D E:Dy} (h:GoodXo false neg y p D E):GoodXo true neg y p (addD D (negD (nrm 1 0))) (addD E (negD (nrm 1 0))):=by
 obtain ⟨p1,b,hb,ho,s1,s2,rfl,rfl⟩:=h
 refine ⟨p1,b,hb,ho,s1,s2,?_,?_⟩
 ·show addD (nrm ((b.1:Int)-0) _) _=nrm ((b.1:Int)-((2^p:Nat):Int)) _
  rw [Int.sub_zero,add_m1]
 ·show addD (nrm ((b.2:Int)-0) _) _=nrm ((b.2:Int)-((2^p:Nat):Int)) _
  rw [Int.sub_zero,add_m1]
structure XpOK (m:Nat) (e:Int) (q:Nat):Prop where
 m0:0<m
 m1:m<2^1280
 e0: -10000≤e
 e1:e≤100000
 l1:(limbs m).length≤100
 hq:q=1024
 y1:dyQ m e≤(q:Rat)
 s:sN (bl m) e≤26
end Go.Ulp
namespace Go.Proofs.YtehhegbkahnhgaaGreatDoor
open Go.RowKit Go.Ulp
set_option maxHeartbeats 4000000
set_option maxRecDepth 100000
theorem ent_xp9 (p:Int) (cp:Value) (w:World):Sem.run Tryz.prog (callFunc 49 #[.int .i64 p,cp]) w=.ok (.enter 49 #[.int .i64 p,cp]) w:=by
 simp [callFunc,go_sem,Tryz.func49,Tryz.f49]
theorem ent_xm9 (p:Int) (cp:Value) (w:World):Sem.run Tryz.prog (callFunc 52 #[.int .i64 p,cp]) w=.ok (.enter 52 #[.int .i64 p,cp]) w:=by
 simp [callFunc,go_sem,Tryz.func52,Tryz.f52]
theorem expB9_any (m:Nat) (e:Int) (q:Nat) (ng:Bool) (p:Nat) (a:Option Addr) (c:Nat) (w:World) (h:Ns .u32 w a c (limbs m)) (t:Tab 0 w) (H:XpOK m e q) (hp0:20≤p) (hp:p≤34359738368):
 Calls Tryz.prog 50 #[.agg #[.bool ng,.slice a (limbs m).length c,.int .i64 e],.int .i64 (p:Int)] w (fun en w'=> ∃D E,GoodXo false ng (dyQ m e) p D E∧RetVD2 w D E en w'):=
 (expBounds_any m e ng p a c w h H.l1 ⟨by have:=H.e0;omega,H.e1⟩ hp0 hp H.s t).mono (fun en w' ⟨n,h1,h2,h3⟩=>⟨_,_,goodE_o m e ng p _ _ q H.m0 H.m1 H.e0 H.hq H.y1 H.s ⟨hp0,hp,n,h1,h2,rfl,rfl⟩,h3⟩)
theorem xpC9_any (m:Nat) (e:Int) (q:Nat) (ng:Bool) (p g:Nat) (a:Option Addr) (c:Nat) (w:World) (zD:QL 38 w g ng (.slice a (limbs m).length c) e) (h0:Ns .u32 w a c (limbs m)) (H:XpOK m e q) (hp0:20≤p) (hp:p≤17179869184) (hT:Tab 0 w):
 Calls Tryz.prog 49 #[.int .i64 (p:Int),.pointer (some ⟨g,0,none⟩)] w fun en w'=> ∃D E,GoodXo false ng (dyQ m e) (p+1600) D E∧RetVD2 w D E en w':=by
 obtain ⟨P,hP⟩: ∃P,P=p+1600:=⟨_,rfl⟩
 rw [←hP]
 have EB2:=hid (fun w h t=>expB9_any m e q ng P a c w h t H (by omega) (by omega))
 have hw:IntKind.i64.wrap ((p:Int)+1600)=(P:Int):=by rw [IntWalk.i64_in _ (by omega)];omega
 obtain ⟨W0,hW0⟩: ∃W:World,W=(w.alloc (.cells #[.bool false,.slice none 0 0,.int .i64 0] 38)).alloc (.cells #[.bool false,.slice none 0 0,.int .i64 0] 38):=⟨_,rfl⟩
 have yb0:Below w.heap.size w W0:=by rw [hW0];(repeat' first|(with_reducible first|assumption|apply bR|apply bA|apply bN|apply bD|apply bL|apply bS)|refine bT ?_ (by assumption)|go_size)
 have zA:=zD.below yb0
 have zR:QL 38 W0 w.heap.size false (.slice none 0 0) 0:=by rw [hW0];exact (QL.made rfl).alloc _
 have zS:QL 38 W0 (w.heap.size+1) false (.slice none 0 0) 0:=by rw [hW0];exact QL.made (by simp)
 have n0:=h0.below yb0
 have t0:=hT.below yb0
 clear h0 hT zD H hp0 hP hp
 go_enter Tryz.func49,Tryz.ntmps49
 go_upto_region 1 with fail
 rw [←hW0]
 clear hW0
 obtain ⟨⟨i0,i1,-⟩,i2,-⟩:=id zA
 go_wp2_with (go_at_call 50;(with_reducible refine (EB2.out _ n0 t0).mono ?_);rintro en w3 ⟨D,E,hgd,v3,v4,rfl,⟨a3,c3,rfl,hN3⟩,⟨a4,c4,rfl,hN4⟩,HB⟩;have zR2:=zR.below HB;have zS2:=zS.below HB;have yb2:=below_trans yb0 HB;obtain ⟨⟨k0,k1,f0,f1,hs2⟩,k2,f2⟩:=id zR2;obtain ⟨⟨m0,m1,g0,g1,hs3⟩,m2,g2⟩:=id zS2)
 refine bodyPost_ret (by simp [results,Tryz.results49,go_sem,k0,k1,k2,m0,m1,m2];try rfl) rfl ?_
 have zS3:=zS2.far3 (b:=w.heap.size) (by omega) (.bool (decide (D.1<0))) (.slice a3 (limbs D.1.natAbs).length c3) (.int .i64 D.2)
 exact ⟨D,E,hgd,_,_,rfl,⟨a3,c3,rfl,(hN3.set3 zR2 (by intro x h;cases h) _ _ _).set3 zS3 (by intro x h;cases h) _ _ _⟩,⟨a4,c4,rfl,(hN4.set3 zR2 (by intro x h;cases h) _ _ _).set3 zS3 (by intro x h;cases h) _ _ _⟩,Go.Ulp.Below.put3 (Go.Ulp.Below.put3 yb2 (by omega) _ _ _) (by omega) _ _ _⟩
theorem xmC9_any (m:Nat) (e:Int) (q:Nat) (ng:Bool) (p g:Nat) (a:Option Addr) (c:Nat) (w:World) (zD:QL 38 w g ng (.slice a (limbs m).length c) e) (h0:Ns .u32 w a c (limbs m)) (H:XpOK m e q) (hp0:20≤p) (hp:p≤17179869184) (hT:Tab 0 w):
 Calls Tryz.prog 52 #[.int .i64 (p:Int),.pointer (some ⟨g,0,none⟩)] w fun en w'=> ∃D E,GoodXo true ng (dyQ m e) p D E∧RetVD2 w D E en w':=by
 have EB2:=hid (fun w h t=>expB9_any m e q ng p a c w h t H (by omega) (by omega))
 have HL:=hid (fun D E h=>goodXo_less (neg:=ng) (y:=dyQ m e) (p:=p) (D:=D) (E:=E) h)
 have HF:=hid (fun D E h=>goodXo_fit (o:=false) (neg:=ng) (y:=dyQ m e) (p:=p) (D:=D) (E:=E) h)
 have ON:=hid (fun w t=>one9_any w t)
 have OP:=hid (fun v w hv=>opp_any v (nrm 1 0) w hv (by decide))
 have PLQ:=hid (fun v u D w hv hu h1 h2 t=>plusD_any v u D (negD (nrm 1 0)) w hv hu h1 (by decide) h2 (by decide) t)
 obtain ⟨W0,hW0⟩: ∃W:World,W=(w.alloc (.cells #[.bool false,.slice none 0 0,.int .i64 0] 38)).alloc (.cells #[.bool false,.slice none 0 0,.int .i64 0] 38):=⟨_,rfl⟩
 have yb0:Below w.heap.size w W0:=by rw [hW0];(repeat' first|(with_reducible first|assumption|apply bR|apply bA|apply bN|apply bD|apply bL|apply bS)|refine bT ?_ (by assumption)|go_size)
 have zA:=zD.below yb0
 have zR:QL 38 W0 w.heap.size false (.slice none 0 0) 0:=by rw [hW0];exact (QL.made rfl).alloc _
 have zS:QL 38 W0 (w.heap.size+1) false (.slice none 0 0) 0:=by rw [hW0];exact QL.made (by simp)
 have n0:=h0.below yb0
 have t0:=hT.below yb0
 have HT:=hid hT
 clear h0 hT zD H hp0 hp
 go_enter Tryz.func52,Tryz.ntmps52
 go_upto_region 1 with fail
 rw [←hW0]
 clear hW0
 obtain ⟨⟨i0,i1,-⟩,i2,-⟩:=id zA
 go_upto_region 2 with (go_at_call 50;(with_reducible refine (EB2.out _ n0 t0).mono ?_);rintro en w3 ⟨D,E,hgd,v3,v4,rfl,⟨a3,c3,rfl,hN3⟩,⟨a4,c4,rfl,hN4⟩,HB⟩)
 obtain ⟨⟨sD1,sD2⟩,⟨sE1,sE2⟩⟩:=HF.out D E hgd
 have HG:=hid (HL.out D E hgd)
 have PL1:=hid (fun v u w hv hu t=>PLQ.out v u D w hv hu sD1 sD2 t)
 have PL2:=hid (fun v u w hv hu t=>PLQ.out v u E w hv hu sE1 sE2 t)
 clear sD1 sD2 sE1 sE2 HF HL PLQ hgd EB2 n0 t0 i0 i1 i2 zA
 obtain ⟨g5,hg5⟩: ∃g,g=w3.heap.size:=⟨_,rfl⟩
 refine wp_wld9 (fun WW=>Below w.heap.size w WW∧QL 38 WW w.heap.size false (.slice none 0 0) 0∧QL 38 WW (w.heap.size+1) false (.slice none 0 0) 0∧DV 38 WW w3.heap.size D∧DV 38 WW (w3.heap.size+1) E) ⟨below_trans (below_trans (below_trans yb0 HB) (below_alloc _ _)) (below_alloc _ _),((zR.below HB).alloc _).alloc _,((zS.below HB).alloc _).alloc _,⟨a3,c3,(QL.made rfl).alloc _,(hN3.below (below_alloc _ _)).below (below_alloc _ _)⟩,⟨a4,c4,QL.made (by simp),(hN4.below (below_alloc _ _)).below (below_alloc _ _)⟩⟩ ?_
 rw [←hg5]
 clear zR zS HB hN3 hN4 hg5 yb0
 intro W2 ⟨yB,zR2,zS2,v5,v6⟩
 obtain ⟨I1,hI1⟩: ∃D,D=nrm 1 0:=⟨_,rfl⟩
 rw [←hI1] at ON OP PL1 PL2 HG
 obtain ⟨J1,hJ1⟩: ∃D,D=negD I1:=⟨_,rfl⟩
 rw [←hJ1] at OP PL1 PL2 HG
 obtain ⟨F1,hF1⟩: ∃F,F=addD D J1:=⟨_,rfl⟩
 obtain ⟨F2,hF2⟩: ∃F,F=addD E J1:=⟨_,rfl⟩
 rw [←hF1] at PL1 HG
 rw [←hF2] at PL2 HG
 clear hI1 hJ1 hF1 hF2
 refine wp_region_grow 8 [13,14,15,16,17,18,19,20] [Fact.vd D,Fact.vd I1,Fact.vd J1,Fact.vd F1,Fact.vd E,Fact.vd I1,Fact.vd J1,Fact.vd F2] (by kernel_rfl) (by kernel_rfl) ⟨?o0,?o1,?o2,?o3,?o4,?o5,?o6,?o7,trivial⟩ ?after
 case o0=>(refine oQ rfl ?_;intro ρ w1 R hcon hfn hρ hb hp hR;have e5:ρ (.tmp 5)=.pointer (some ⟨g5,0,none⟩):=hρ.tmp 5 rfl;obtain ⟨qa,qc,⟨⟨j0,j1,-⟩,j2,-⟩,qn⟩:=v5.below hb;clear hρ hp;unfold OpRun;go_simp;exact hR _ _ (Below.refl _ _) ⟨qa,qc,rfl,qn⟩)
 case o1=>(refine oQ rfl ?_;intro ρ w1 R hcon hfn hρ hb hp hR;clear hρ hp;unfold OpRun;go_simp;(refine (ON.out _ (HT.out.below (below_trans yB hb))).mono ?_;rintro e wn ⟨v9,rfl,hv9,hbn⟩;exact ⟨_,rfl,hR _ _ hbn hv9⟩))
 case o2=>(refine oQ rfl ?_;intro ρ w1 R hcon hfn hρ hb hp hR;have f14:=hp 1 14 rfl rfl;clear hρ hp;unfold OpRun;go_simp;(refine (OP.out _ _ f14).mono ?_;rintro e wn ⟨v9,rfl,hv9,hbn⟩;exact ⟨_,rfl,hR _ _ hbn hv9⟩))
 case o3=>(refine oQ rfl ?_;intro ρ w1 R hcon hfn hρ hb hp hR;have f13:=hp 0 13 rfl rfl;have f15:=hp 2 15 rfl rfl;clear hρ hp;unfold OpRun;go_simp;(refine (PL1.out _ _ _ f13 f15 (HT.out.below (below_trans yB hb))).mono ?_;rintro e wn ⟨v9,rfl,hv9,hbn⟩;exact ⟨_,rfl,hR _ _ hbn hv9⟩))
 case o4=>(refine oQ rfl ?_;intro ρ w1 R hcon hfn hρ hb hp hR;have e6:ρ (.tmp 6)=.pointer (some ⟨(g5+1),0,none⟩):=hρ.tmp 6 rfl;obtain ⟨qa,qc,⟨⟨j0,j1,-⟩,j2,-⟩,qn⟩:=v6.below hb;clear hρ hp;unfold OpRun;go_simp;exact hR _ _ (Below.refl _ _) ⟨qa,qc,rfl,qn⟩)
 case o5=>(refine oQ rfl ?_;intro ρ w1 R hcon hfn hρ hb hp hR;clear hρ hp;unfold OpRun;go_simp;(refine (ON.out _ (HT.out.below (below_trans yB hb))).mono ?_;rintro e wn ⟨v9,rfl,hv9,hbn⟩;exact ⟨_,rfl,hR _ _ hbn hv9⟩))
 case o6=>(refine oQ rfl ?_;intro ρ w1 R hcon hfn hρ hb hp hR;have f18:=hp 5 18 rfl rfl;clear hρ hp;unfold OpRun;go_simp;(refine (OP.out _ _ f18).mono ?_;rintro e wn ⟨v9,rfl,hv9,hbn⟩;exact ⟨_,rfl,hR _ _ hbn hv9⟩))
 case o7=>(refine oQ rfl ?_;intro ρ w1 R hcon hfn hρ hb hp hR;have f17:=hp 4 17 rfl rfl;have f19:=hp 6 19 rfl rfl;clear hρ hp;unfold OpRun;go_simp;(refine (PL2.out _ _ _ f17 f19 (HT.out.below (below_trans yB hb))).mono ?_;rintro e wn ⟨v9,rfl,hv9,hbn⟩;exact ⟨_,rfl,hR _ _ hbn hv9⟩))
 case after=>
  intro u wn hb hf
  have f16:=hf 3 16 (by omega) rfl
  have f20:=hf 7 20 (by omega) rfl
  clear hf
  simp only [putAll,Act.put,List.setIfInBounds_toArray,List.set_cons_zero,List.set_cons_succ,List.drop_succ_cons,List.drop_zero,List.drop_nil]
  obtain ⟨a97,c97,e97,n97⟩:=f16
  obtain ⟨a98,c98,e98,n98⟩:=f20
  rw [e97,e98]
  have zR3:=zR2.below hb
  have zS3:=zS2.below hb
  have yb2:=below_trans yB hb
  clear zR2 zS2 v5 v6 yB hb e97 e98 PL1 PL2
  obtain ⟨⟨k0,k1,f0,f1,hs2⟩,k2,f2⟩:=id zR3
  obtain ⟨⟨m0,m1,g0,g1,hs3⟩,m2,g2⟩:=id zS3
  go_wp2_with fail
  refine bodyPost_ret (by simp [results,Tryz.results52,go_sem,k0,k1,k2,m0,m1,m2];try rfl) rfl ?_
  have zS4:=zS3.far3 (b:=w.heap.size) (by omega) (.bool (decide (F1.1<0))) (.slice a97 (limbs F1.1.natAbs).length c97) (.int .i64 F1.2)
  exact ⟨F1,F2,HG.out,_,_,rfl,⟨a97,c97,rfl,(n97.set3 zR3 (by intro x h;cases h) _ _ _).set3 zS4 (by intro x h;cases h) _ _ _⟩,⟨a98,c98,rfl,(n98.set3 zR3 (by intro x h;cases h) _ _ _).set3 zS4 (by intro x h;cases h) _ _ _⟩,Go.Ulp.Below.put3 (Go.Ulp.Below.put3 yb2 (by omega) _ _ _) (by omega) _ _ _⟩
end Go.Proofs.YtehhegbkahnhgaaGreatDoor
namespace Go.Ulp
open Go.RowKit
theorem sg_zneg (z:Int):sg (zneg z) (z.natAbs:Int)=z:=by
 unfold sg zneg
 by_cases h:z<0
 ·rw [decide_eq_true h,if_pos rfl];omega
 ·rw [decide_eq_false h,if_neg (by decide)];omega
end Go.Ulp
namespace Go.Proofs.YtehhegbkahnhgaaGreatDoor
open Go.RowKit Go.Ulp
set_option maxHeartbeats 4000000
set_option maxRecDepth 100000
theorem tensC_any (z:Int) (hz:z≠0) (t:Nat) (mode:Int) (gt gm E:Nat) (v:Value) (w:World) (hv:ZD 3 w z v) (cT:CV w gt (.int .i64 (t:Int))) (cM:CV w gm (.int .i64 mode)) (hE:E=3100000000) (hs:z.natAbs<10^E) (ht:t≤3100000000) (m0:0≤mode) (m1:mode≤4):
 Calls Tryz.prog 116 #[v,.pointer (some ⟨gt,0,none⟩),.pointer (some ⟨gm,0,none⟩)] w fun e w'=>e=.returned (.int .u64 (vX (st z (10^t)) mode))∧Below w.heap.size w w':=by
 have hn:0<z.natAbs:=by omega
 have lz:=zl_le10 (x:=z.natAbs) (E:=E) (Nat.le_of_lt hs)
 have ZB:=hid (fun v w h=>zabsD v z w h)
 have DG:=hid (fun v w h=>digitsOf_any z.natAbs v w h (by omega))
 have hD:dgT z.natAbs=decD z.natAbs:=by unfold dgT;rw [if_neg (by omega)]
 rw [hD] at DG
 have RB:=hid (show ∀w,Calls Tryz.prog 96 #[.bool (zneg z),.string (bsOf (decD z.natAbs)),.int .i64 (-(t:Int)),.int .i64 mode] w (fun e w'=> ∃b,e=.returned (.tuple #[.int .u64 (vX (st z (10^t)) mode),.bool b])∧Below w.heap.size w w') from fun w=>by
  have h:=readBits_any (zneg z) (decD z.natAbs) (-(t:Int)) mode w (decD_dg _) (decD_pos _) (Nat.le_trans (decD_len_lt _ E hs (by omega)) (by omega)) ⟨by omega,by omega⟩ m0 m1
  refine h.mono (fun e w' hr=>?_)
  have:=read_vX m0 m1 hn hr
  rw [sg_zneg] at this
  exact this)
 obtain ⟨a,c,rfl,h0⟩:=hv
 have yb0:=below_alloc w (.cells #[.bool (zneg z),.slice a (zl z).length c] 47)
 have zA:=zv_made (tz:=47) h0 w.heap.size rfl
 have cT0:=cT.below yb0
 have cM0:=cM.below yb0
 have wt:IntKind.i64.wrap (-(t:Int))= -(t:Int):=IntWalk.i64_in _ (by omega)
 clear h0 cT cM hn hs lz hz hD
 generalize vX (st z (10^t)) mode=X at *
 generalize decD z.natAbs=L at *
 go_enter Tryz.func116,Tryz.ntmps116
 go_upto_region 1 with fail
 refine wp_worldZ (fun WW=>Below w.heap.size w WW∧ZV 47 3 WW w.heap.size z∧CV WW gt (.int .i64 (t:Int))∧CV WW gm (.int .i64 mode)) ⟨yb0,zA,cT0,cM0⟩ ?_
 clear yb0 zA cT0 cM0
 intro W1 ⟨yb1,zA,cT,cM⟩
 refine wp_region_grow 14 [8,9,10,11,12,13,14,15,16,7,17,18,5,6] [Fact.is (.pointer (some ⟨w.heap.size,0,none⟩)),Fact.is (.bool (zneg z)),Fact.z 3 (z),Fact.z 3 (z.natAbs:Int),Fact.is (.string (bsOf L)),Fact.is (.int .i64 (t:Int)),Fact.is (.int .i64 (-(t:Int))),Fact.is (.int .i64 mode),Fact.rb X,Fact.rb X,Fact.is (.int .u64 X),Fact.bo,Fact.is (.int .u64 X),Fact.bo] (by kernel_rfl) (by kernel_rfl) ⟨?o0,?o1,?o2,?o3,?o4,?o5,?o6,?o7,?o8,?o9,?o10,?o11,?o12,?o13,trivial⟩ ?after
 case o0=>(refine oQ rfl ?_;intro ρ w1 R hcon hfn hρ hb hp hR;have e3:ρ (.tmp 3)=.pointer (some ⟨w.heap.size,0,none⟩):=hρ.tmp 3 rfl;clear hρ hp;unfold OpRun;go_simp;exact hR _ _ (Below.refl _ _) rfl)
 case o1=>(refine oQ rfl ?_;intro ρ w1 R hcon hfn hρ hb hp hR;have e8:ρ (.tmp 8)=_:=hp 0 8 rfl rfl;obtain ⟨a9,c9,⟨j0,j1,-⟩,-⟩:=zA.below hb;clear hρ hp;unfold OpRun;go_simp;exact hR _ _ (Below.refl _ _) rfl)
 case o2=>(refine oQ rfl ?_;intro ρ w1 R hcon hfn hρ hb hp hR;have e3:ρ (.tmp 3)=.pointer (some ⟨w.heap.size,0,none⟩):=hρ.tmp 3 rfl;obtain ⟨ya9,yc9,yj9,yn9⟩:=ZV.below zA hb;obtain ⟨j90,j91,-⟩:=yj9;clear hρ hp;unfold OpRun;go_simp;exact hR _ _ (Below.refl _ _) ⟨ya9,yc9,rfl,yn9⟩)
 case o3=>(refine oQ rfl ?_;intro ρ w1 R hcon hfn hρ hb hp hR;have f10:=hp 2 10 rfl rfl;clear hρ hp;unfold OpRun;go_simp;(refine (ZB.out _ _ f10).mono ?_;rintro e wn ⟨v9,rfl,hv9,hbn⟩;exact ⟨_,rfl,hR _ _ hbn hv9⟩))
 case o4=>(refine oQ rfl ?_;intro ρ w1 R hcon hfn hρ hb hp hR;have f11:=hp 3 11 rfl rfl;clear hρ hp;unfold OpRun;go_simp;(refine (DG.out _ _ f11).mono ?_;rintro e wn ⟨rfl,hbn⟩;exact ⟨_,rfl,hR _ _ hbn rfl⟩))
 case o5=>(refine oQ rfl ?_;intro ρ w1 R hcon hfn hρ hb hp hR;have e1:ρ (.tmp 1)=.pointer (some ⟨gt,0,none⟩):=hρ.tmp 1 rfl;have j12:=(cT.below hb).1;clear hρ hp;unfold OpRun;go_simp;exact hR _ _ (Below.refl _ _) rfl)
 case o6=>(refine oQ rfl ?_;intro ρ w1 R hcon hfn hρ hb hp hR;have e13:ρ (.tmp 13)=_:=hp 5 13 rfl rfl;clear hρ hp;unfold OpRun;go_simp;exact hR _ _ (Below.refl _ _) rfl)
 case o7=>(refine oQ rfl ?_;intro ρ w1 R hcon hfn hρ hb hp hR;have e2:ρ (.tmp 2)=.pointer (some ⟨gm,0,none⟩):=hρ.tmp 2 rfl;have j12:=(cM.below hb).1;clear hρ hp;unfold OpRun;go_simp;exact hR _ _ (Below.refl _ _) rfl)
 case o8=>(refine oQ rfl ?_;intro ρ w1 R hcon hfn hρ hb hp hR;have e9:ρ (.tmp 9)=_:=hp 1 9 rfl rfl;have e12:ρ (.tmp 12)=_:=hp 4 12 rfl rfl;have e14:ρ (.tmp 14)=_:=hp 6 14 rfl rfl;have e15:ρ (.tmp 15)=_:=hp 7 15 rfl rfl;clear hρ hp;unfold OpRun;go_simp;(refine (RB.out _).mono ?_;rintro e wn ⟨b9,rfl,hbn⟩;exact ⟨_,rfl,hR _ _ hbn ⟨b9,rfl⟩⟩))
 case o9=>(refine oQ rfl ?_;intro ρ w1 R hcon hfn hρ hb hp hR;have f16:=hp 8 16 rfl rfl;clear hρ hp;unfold OpRun;go_simp;exact hR _ _ (Below.refl _ _) f16)
 case o10=>(refine oQ rfl ?_;intro ρ w1 R hcon hfn hρ hb hp hR;have f7:=hp 9 7 rfl rfl;obtain ⟨b9,e9⟩:=f7;clear hρ hp;unfold OpRun;go_simp;exact hR _ _ (Below.refl _ _) rfl)
 case o11=>(refine oQ rfl ?_;intro ρ w1 R hcon hfn hρ hb hp hR;have f7:=hp 9 7 rfl rfl;obtain ⟨b9,e9⟩:=f7;clear hρ hp;unfold OpRun;go_simp;exact hR _ _ (Below.refl _ _) ⟨b9,rfl⟩)
 case o12=>(refine oQ rfl ?_;intro ρ w1 R hcon hfn hρ hb hp hR;have e17:ρ (.tmp 17)=_:=hp 10 17 rfl rfl;clear hρ hp;unfold OpRun;go_simp;exact hR _ _ (Below.refl _ _) rfl)
 case o13=>(refine oQ rfl ?_;intro ρ w1 R hcon hfn hρ hb hp hR;have f18:=hp 11 18 rfl rfl;clear hρ hp;unfold OpRun;go_simp;exact hR _ _ (Below.refl _ _) f18)
 case after=>
  intro u wn hb hf
  have e5:u 5=_:=hf 12 5 (by omega) rfl
  have f6:=hf 13 6 (by omega) rfl
  clear hf
  simp only [putAll,Act.put,List.setIfInBounds_toArray,List.set_cons_zero,List.set_cons_succ,List.drop_succ_cons,List.drop_zero,List.drop_nil]
  rw [e5]
  obtain ⟨b6,e6⟩:=f6
  rw [e6]
  go_wp2_with fail
  go_ret
  exact ⟨rfl,below_trans yb1 hb⟩
theorem ent_tn (v p q:Value) (w:World):Sem.run Tryz.prog (callFunc 116 #[v,p,q]) w=.ok (.enter 116 #[v,p,q]) w:=by
 simp [callFunc,go_sem,Tryz.func116,Tryz.f116]
theorem tens_any (x:Int×Int) (h1:x.1≠0) (h2:x.2≠0) (t:Nat) (mode:Int) (E:Nat) (v:Value) (w:World) (hv:PI 3 w x v) (hE:E=3100000000) (hs1:x.1.natAbs<10^E) (hs2:x.2.natAbs<10^E) (ht:t≤3100000000) (m0:0≤mode) (m1:mode≤4):
 Calls Tryz.prog 89 #[v,.int .i64 (t:Int),.int .i64 mode] w fun e w'=>e=.returned (.tuple #[.int .u64 (vX (st x.1 (10^t)) mode),.bool (vX (st x.1 (10^t)) mode==vX (st x.2 (10^t)) mode)])∧Below w.heap.size w w':=by
 obtain ⟨x1,x2⟩:=x
 obtain ⟨a0,c0,a1,c1,rfl,n0,n1⟩:=hv
 simp only at h1 h2 hs1 hs2 n0 n1 ⊢
 have TC1:=hid (fun gt gm v w hv cT cM=>tensC_any x1 h1 t mode gt gm E v w hv cT cM hE hs1 ht m0 m1)
 have TC2:=hid (fun gt gm v w hv cT cM=>tensC_any x2 h2 t mode gt gm E v w hv cT cM hE hs2 ht m0 m1)
 obtain ⟨W0,hW0⟩: ∃W,W=((w.alloc (.cells #[.bool (zneg x1),.slice a0 (zl x1).length c0,.bool (zneg x2),.slice a1 (zl x2).length c1] 63)).alloc (.cells #[.int .i64 (t:Int)] 3)).alloc (.cells #[.int .i64 mode] 3):=⟨_,rfl⟩
 have yb0:Below w.heap.size w W0:=by rw [hW0];(repeat' first|(with_reducible first|assumption|apply bR|apply bA|apply bN|apply bD|apply bL|apply bS)|refine bT ?_ (by assumption)|go_size)
 have zA:BC 63 W0 w.heap.size (zneg x1) (.slice a0 (zl x1).length c0) (zneg x2) (.slice a1 (zl x2).length c1):=by rw [hW0];exact ((BC.made rfl).below (below_alloc _ _)).below (below_alloc _ _)
 have zT:CV W0 (w.heap.size+1) (.int .i64 (t:Int)):=by
  rw [hW0]
  have:=(CV.made (w:=w.alloc (.cells #[.bool (zneg x1),.slice a0 (zl x1).length c0,.bool (zneg x2),.slice a1 (zl x2).length c1] 63)) (v:=.int .i64 (t:Int)) (t:=3))
  have h:=this.below (below_alloc _ (.cells #[.int .i64 mode] 3))
  simpa using h
 have zM:CV W0 (w.heap.size+2) (.int .i64 mode):=by
  rw [hW0]
  have:=(CV.made (w:=(w.alloc (.cells #[.bool (zneg x1),.slice a0 (zl x1).length c0,.bool (zneg x2),.slice a1 (zl x2).length c1] 63)).alloc (.cells #[.int .i64 (t:Int)] 3)) (v:=.int .i64 mode) (t:=3))
  simpa using this
 have H0:=hid (n0.below yb0)
 have H1:=hid (n1.below yb0)
 have hmf: ∀fn first cap w,(Instr.makeFunc fn first cap).run Tryz.prog w=.ok (.func fn first cap) w:=fun _ _ _ _=>rfl
 clear n0 n1 h1 h2 hs1 hs2
 generalize vX (st x1 (10^t)) mode=X1 at *
 generalize vX (st x2 (10^t)) mode=X2 at *
 go_enter Tryz.func89,Tryz.ntmps89
 go_upto_region 2 with fail
 rw [←hW0]
 have HT:=hid (show ∀w',Below W0.heap.size W0 w'→CV w' (w.heap.size+1) (.int .i64 (t:Int))∧CV w' (w.heap.size+2) (.int .i64 mode) from fun w' hb=>⟨zT.below hb,zM.below hb⟩)
 clear hW0 zT zM
 have hent:=fun v w=>ent_tn v (.pointer (some ⟨w.heap.size+1,0,none⟩)) (.pointer (some ⟨w.heap.size+2,0,none⟩)) w
 refine wp_region_grow 10 [12,13,14,15,16,17,18,19,9,10] [Fact.is (.func (.func 116) #[] #[.pointer (some ⟨w.heap.size+1,0,none⟩),.pointer (some ⟨w.heap.size+2,0,none⟩)]),Fact.is (.pointer (some ⟨w.heap.size,0,none⟩)),Fact.z 3 x1,Fact.is (.int .u64 X1),Fact.is (.func (.func 116) #[] #[.pointer (some ⟨w.heap.size+1,0,none⟩),.pointer (some ⟨w.heap.size+2,0,none⟩)]),Fact.is (.pointer (some ⟨w.heap.size,2,none⟩)),Fact.z 3 x2,Fact.is (.int .u64 X2),Fact.is (.int .u64 X1),Fact.is (.int .u64 X2)] (by kernel_rfl) (by kernel_rfl) ⟨?o0,?o1,?o2,?o3,?o4,?o5,?o6,?o7,?o8,?o9,trivial⟩ ?after
 case o0=>(refine oQ rfl ?_;intro ρ w1 R hcon hfn hρ hb hp hR;have e8:ρ (.tmp 8)=.func (.func 116) #[] #[.pointer (some ⟨w.heap.size+1,0,none⟩),.pointer (some ⟨w.heap.size+2,0,none⟩)]:=hρ.tmp 8 rfl;clear hρ hp;unfold OpRun;go_simp;exact hR _ _ (Below.refl _ _) rfl)
 case o1=>(refine oQ rfl ?_;intro ρ w1 R hcon hfn hρ hb hp hR;have e3:ρ (.tmp 3)=.pointer (some ⟨w.heap.size,0,none⟩):=hρ.tmp 3 rfl;clear hρ hp;unfold OpRun;go_simp;exact hR _ _ (Below.refl _ _) rfl)
 case o2=>(refine oQ rfl ?_;intro ρ w1 R hcon hfn hρ hb hp hR;have e13:ρ (.tmp 13)=_:=hp 1 13 rfl rfl;obtain ⟨⟨q0,q1,q2,q3⟩,-⟩:=zA.below hb;clear hρ hp;unfold OpRun;go_simp;exact hR _ _ (Below.refl _ _) ⟨a0,c0,rfl,H0.out.below hb⟩)
 case o3=>(refine oQ rfl ?_;intro ρ w1 R hcon hfn hρ hb hp hR;have e12:ρ (.tmp 12)=_:=hp 0 12 rfl rfl;have f14:=hp 2 14 rfl rfl;clear hρ hp;unfold OpRun;go_simp;(refine (TC1.out _ _ _ _ f14 (HT.out _ hb).1 (HT.out _ hb).2).mono ?_;rintro e wn ⟨rfl,hbn⟩;exact ⟨_,rfl,hR _ _ hbn rfl⟩))
 case o4=>(refine oQ rfl ?_;intro ρ w1 R hcon hfn hρ hb hp hR;have e8:ρ (.tmp 8)=.func (.func 116) #[] #[.pointer (some ⟨w.heap.size+1,0,none⟩),.pointer (some ⟨w.heap.size+2,0,none⟩)]:=hρ.tmp 8 rfl;clear hρ hp;unfold OpRun;go_simp;exact hR _ _ (Below.refl _ _) rfl)
 case o5=>(refine oQ rfl ?_;intro ρ w1 R hcon hfn hρ hb hp hR;have e3:ρ (.tmp 3)=.pointer (some ⟨w.heap.size,0,none⟩):=hρ.tmp 3 rfl;clear hρ hp;unfold OpRun;go_simp;exact hR _ _ (Below.refl _ _) rfl)
 case o6=>(refine oQ rfl ?_;intro ρ w1 R hcon hfn hρ hb hp hR;have e17:ρ (.tmp 17)=_:=hp 5 17 rfl rfl;obtain ⟨⟨q0,q1,q2,q3⟩,-⟩:=zA.below hb;clear hρ hp;unfold OpRun;go_simp;exact hR _ _ (Below.refl _ _) ⟨a1,c1,rfl,H1.out.below hb⟩)
 case o7=>(refine oQ rfl ?_;intro ρ w1 R hcon hfn hρ hb hp hR;have e16:ρ (.tmp 16)=_:=hp 4 16 rfl rfl;have f18:=hp 6 18 rfl rfl;clear hρ hp;unfold OpRun;go_simp;(refine (TC2.out _ _ _ _ f18 (HT.out _ hb).1 (HT.out _ hb).2).mono ?_;rintro e wn ⟨rfl,hbn⟩;exact ⟨_,rfl,hR _ _ hbn rfl⟩))
 case o8=>(refine oQ rfl ?_;intro ρ w1 R hcon hfn hρ hb hp hR;have e15:ρ (.tmp 15)=_:=hp 3 15 rfl rfl;clear hρ hp;unfold OpRun;go_simp;exact hR _ _ (Below.refl _ _) rfl)
 case o9=>(refine oQ rfl ?_;intro ρ w1 R hcon hfn hρ hb hp hR;have e19:ρ (.tmp 19)=_:=hp 7 19 rfl rfl;clear hρ hp;unfold OpRun;go_simp;exact hR _ _ (Below.refl _ _) rfl)
 case after=>
  intro u wn hb hf
  have e9:u 9=_:=hf 8 9 (by omega) rfl
  have e10:u 10=_:=hf 9 10 (by omega) rfl
  clear hf
  simp only [putAll,Act.put,List.setIfInBounds_toArray,List.set_cons_zero,List.set_cons_succ,List.drop_succ_cons,List.drop_zero,List.drop_nil]
  rw [e9,e10]
  go_wp2_with fail
  go_ret2
  exact ⟨rfl,below_trans yb0 hb⟩
end Go.Proofs.YtehhegbkahnhgaaGreatDoor
namespace Go.Ulp
open Go.RowKit
def RetBy (w:World) (mode:Int) (Good:Nat→Int×Int→Prop) (en:Ending) (w':World):Prop:= ∃t x,Good t x∧x.1≠0∧x.2≠0∧vX (st x.1 (10^t)) mode=vX (st x.2 (10^t)) mode∧en=.returned (.tuple #[.int .u64 (vX (st x.1 (10^t)) mode),.bool true])∧Below w.heap.size w w'
end Go.Ulp
namespace Go.Proofs.YtehhegbkahnhgaaGreatDoor
open Go.RowKit Go.Ulp
set_option maxHeartbeats 4000000
set_option maxRecDepth 100000
theorem byBounds_any (mode:Int) (m0:0≤mode) (m1:mode≤4) (t0 fn:Nat) (cp:Value) (Good:Nat→Int×Int→Prop) (w:World) (ht0:20≤t0) (ht1:t0≤2000) (hfn: ∀(p:Int) w,Sem.run Tryz.prog (callFunc fn #[.int .i64 p,cp]) w=.ok (.enter fn #[.int .i64 p,cp]) w)
 (hG1: ∀t x,Good t x→x.1.natAbs≤10^(t+1650)∧x.2.natAbs≤10^(t+1650)) (hEnd: ∀t x,Good t x→2900000000≤t→st x.1 (10^t)=st x.2 (10^t)∧x.1≠0∧x.2≠0)
 (hC: ∀(t:Nat) w',20≤t→t≤3000000000→Below w.heap.size w w'→Calls Tryz.prog fn #[.int .i64 (t:Int),cp] w' (RetGI 3 w' Good t)):
 Calls Tryz.prog 42 #[.int .i64 (t0:Int),.int .i64 mode,.func (.func fn) #[] #[cp]] w (RetBy w mode Good):=by
 have HC:=hid hC
 have HG1:=hid hG1
 have HEnd:=hid hEnd
 clear hC hG1 hEnd
 go_enter Tryz.func42,Tryz.ntmps42
 go_wp2_with fail
 go_loopw [0] (fun s0 wr=> ∃t:Nat,s0=.int .i64 (t:Int)∧20≤t∧t≤2900000060∧Below w.heap.size w wr) (fun s0 _=>3000000001-(intOf s0).toNat)
 case atStart=>exact ⟨t0,rfl,ht0,by omega,Below.refl _ _⟩
 case round=>
 obtain ⟨t,rfl,hp1,hp2,yr⟩:=hrel
 have HC1:=hid (fun w' hb=>HC.out t w' hp1 (by omega) hb)
 have hfn1:=hfn (t:Int)
 go_upto_region 2 with ((with_reducible refine (HC1.out _ yr).mono ?_);rintro en w1 ⟨⟨x1,x2⟩,hgd,v1,rfl,⟨a1,c1,b1,d1,rfl,n1,n2⟩,hb1⟩)
 obtain ⟨hs1,hs2⟩:=HG1.out t _ hgd
 have hEn:=hid (HEnd.out t _ hgd)
 simp only at hs1 hs2 n1 n2 hEn
 obtain ⟨E,hE⟩: ∃E,E=3100000000:=⟨_,rfl⟩
 have hlt: ∀y:Int,y.natAbs≤10^(t+1650)→y.natAbs<10^E:=fun y h=>Nat.lt_of_le_of_lt h (Nat.pow_lt_pow_right (by omega) (by omega))
 have TN:=hid (fun (h1:x1≠0) (h2:x2≠0) v w h=>tens_any (x1,x2) h1 h2 t mode E v w h hE (hlt x1 hs1) (hlt x2 hs2) (by omega) m0 m1)
 have HRET:=hid (show ∀w',x1≠0→x2≠0→vX (st x1 (10^t)) mode=vX (st x2 (10^t)) mode→Below w.heap.size w w'→RetBy w mode Good (.returned (.tuple #[.int .u64 (vX (st x1 (10^t)) mode),.bool true])) w' from fun w' h1 h2 h3 h4=>⟨t,(x1,x2),hgd,h1,h2,h3,rfl,h4⟩)
 have hX:2900000000≤t→vX (st x1 (10^t)) mode=vX (st x2 (10^t)) mode∧x1≠0∧x2≠0:=fun h=>by
  obtain ⟨e1,e2,e3⟩:=hEn.out h
  exact ⟨by rw [e1],e2,e3⟩
 have HX:=hid hX
 have S1:=hid (fun v w h=>zsignD v x1 w h)
 have S2:=hid (fun v w h=>zsignD v x2 w h)
 clear hX hEn hs1 hs2 hlt hgd hfn1 hE
 simp only at TN
 generalize vX (st x1 (10^t)) mode=X1 at *
 generalize vX (st x2 (10^t)) mode=X2 at *
 refine wp_worldZ (fun WW=>Below w.heap.size w WW∧BC 63 WW w1.heap.size (zneg x1) (.slice a1 (zl x1).length c1) (zneg x2) (.slice b1 (zl x2).length d1)∧Nz 3 WW a1 c1 (zl x1)∧Nz 3 WW b1 d1 (zl x2)) ⟨below_trans (below_trans yr hb1) (below_alloc _ _),BC.made rfl,n1.below (below_alloc _ _),n2.below (below_alloc _ _)⟩ ?_
 obtain ⟨g8,hg8⟩: ∃g,g=w1.heap.size:=⟨_,rfl⟩
 rw [←hg8]
 clear hb1 yr n1 n2 hg8 HC1
 intro W2 ⟨yr,z8,n1,n2⟩
 have wP:t<2900000000→IntKind.i64.wrap ((t:Int)+60)=((t+60:Nat):Int):=fun h=>by rw [IntWalk.i64_in _ (by omega)];omega
 obtain ⟨⟨i0,i1,i2,i3⟩,-⟩:=id z8
 have D1:ZD 3 W2 x1 (.agg #[.bool (zneg x1),.slice a1 (zl x1).length c1]):=⟨a1,c1,rfl,n1⟩
 have D2:ZD 3 W2 x2 (.agg #[.bool (zneg x2),.slice b1 (zl x2).length d1]):=⟨b1,d1,rfl,n2⟩
 by_cases h1:x1=0
 ·have hpn:t<2900000000:=Nat.lt_of_not_le fun h=>(HX.out h).2.1 h1
  have wP2:=wP hpn
  have e1:cmpI x1 0=0:=(cmpI_eq_zero _ _).2 h1
  rw [e1] at S1
  clear wP h1 e1
  go_wp2_with (go_at_call 88;(with_reducible refine (S1.out _ _ D1).mono ?_);rintro en w3 ⟨rfl,hb3⟩)
  go_roundw
  case rel=>exact ⟨t+60,rfl,by omega,by omega,below_trans yr hb3⟩
  case measure=>simp [intOf];omega
 ·obtain ⟨k1,hk1⟩: ∃k,k=cmpI x1 0:=⟨_,rfl⟩
  have hz1:(k1 !=0)=true:=bne_iff_ne.2 (fun h=>h1 ((cmpI_eq_zero _ _).1 (by rw [←hk1];exact h)))
  rw [←hk1] at S1
  clear hk1
  by_cases h2:x2=0
  ·have hpn:t<2900000000:=Nat.lt_of_not_le fun h=>(HX.out h).2.2 h2
   have wP2:=wP hpn
   have e2:cmpI x2 0=0:=(cmpI_eq_zero _ _).2 h2
   rw [e2] at S2
   clear wP h2 e2 h1
   go_wp2_with (first
    |(go_at_call 88;(with_reducible refine (S1.out _ _ D1).mono ?_);rintro en w3 ⟨rfl,hb3⟩;obtain ⟨⟨m0',m1',m2',m3'⟩,-⟩:=z8.below hb3)
    |(go_at_call 88;(with_reducible refine (S2.out _ _ (D2.below hb3)).mono ?_);rintro en w4 ⟨rfl,hb4⟩))
   go_roundw
   case rel=>exact ⟨t+60,rfl,by omega,by omega,below_trans (below_trans yr hb3) hb4⟩
   case measure=>simp [intOf];omega
  ·obtain ⟨k2,hk2⟩: ∃k,k=cmpI x2 0:=⟨_,rfl⟩
   have hz2:(k2 !=0)=true:=bne_iff_ne.2 (fun h=>h2 ((cmpI_eq_zero _ _).1 (by rw [←hk2];exact h)))
   rw [←hk2] at S2
   clear hk2
   have TN2:=hid (TN.out h1 h2)
   have HRT2:=hid (fun w' h3 h4=>HRET.out w' h1 h2 h3 h4)
   clear h1 h2 HRET TN
   go_upto_region 3 with (first
    |(go_at_call 88;(with_reducible refine (S1.out _ _ D1).mono ?_);rintro en w3 ⟨rfl,hb3⟩;obtain ⟨⟨m0',m1',m2',m3'⟩,-⟩:=z8.below hb3)
    |(go_at_call 88;(with_reducible refine (S2.out _ _ (D2.below hb3)).mono ?_);rintro en w4 ⟨rfl,hb4⟩;obtain ⟨⟨q0',q1',q2',q3'⟩,-⟩:=(z8.below hb3).below hb4))
   have HP:=hid (show PI 3 w4 (x1,x2) (.agg #[.bool (zneg x1),.slice a1 (zl x1).length c1,.bool (zneg x2),.slice b1 (zl x2).length d1]) from ⟨a1,c1,b1,d1,rfl,(n1.below hb3).below hb4,(n2.below hb3).below hb4⟩)
   have yb4:=below_trans (below_trans yr hb3) hb4
   clear i0 i1 i2 i3 m0' m1' m2' m3' z8 n1 n2 hb3 hb4 yr D1 D2
   by_cases hEq:X1=X2
   ·have hb1:(X1==X2)=true:=beq_iff_eq.2 hEq
    rw [hb1] at TN2
    have HX3:=hid hEq
    clear hEq wP hb1
    go_wp2_with (go_at_call 89;(with_reducible refine (TN2.out _ _ HP.out).mono ?_);rintro en w5 ⟨rfl,hb5⟩)
    go_ret2
    exact HRT2.out _ HX3.out (below_trans yb4 hb5)
   ·have hb1:(X1==X2)=false:=beq_eq_false_iff_ne.2 hEq
    have hpn:t<2900000000:=Nat.lt_of_not_le fun h=>hEq (HX.out h).1
    have wP2:=wP hpn
    rw [hb1] at TN2
    clear hEq wP hb1
    go_wp2_with (go_at_call 89;(with_reducible refine (TN2.out _ _ HP.out).mono ?_);rintro en w5 ⟨rfl,hb5⟩)
    go_roundw
    case rel=>exact ⟨t+60,rfl,by omega,by omega,below_trans yb4 hb5⟩
    case measure=>simp [intOf];omega
end Go.Proofs.YtehhegbkahnhgaaGreatDoor
namespace Go.Ulp
theorem rsP_top {t:PP} {D:Nat} (hD:12≤D) (ht:2*t.2≤D): ∀k,(rsP t D k).2≤(k+1)*(D+1)
 |0=>by show t.2/1+1≤_;rw [Nat.div_one];omega
 |k+1=>by
  have a:=rsP_top hD ht k
  have b:=rpP_le hD ht (k+1)
  have c:(rpP t D (k+1)).2/(2*k+3)≤(rpP t D (k+1)).2:=Nat.div_le_self _ _
  have e:(k+1+1)*(D+1)=(k+1)*(D+1)+(D+1):=Nat.succ_mul _ _
  show (rsP t D k).2+((rpP t D (k+1)).2/(2*k+3)+1)≤_
  omega
structure RtOK (num den t k:Nat):Prop where
 hd:0<den
 h2:2*num≤den
 ln:num≤10^140000
 ld:den≤10^140000
 t0:20≤t
 t1:t≤3000000000
 k1:k≤4*t+1
 e1:(rpP (frB num den (10^t)) (10^t) k).2≤2
 e2: ∀i,i<k→ ¬(rpP (frB num den (10^t)) (10^t) i).2≤2
theorem ten12' {t:Nat} (h:20≤t):12≤10^t:=Nat.le_trans (show 12≤10^20 by decide) (Nat.pow_le_pow_right (by omega) h)
theorem even_ten {t:Nat} (h:1≤t):2*(10^t/2)=10^t:=by
 have:10^t=10^(t-1)*10:=by rw [←Nat.pow_succ];congr 1;omega
 omega
theorem RtOK.half {num den t k:Nat} (h:RtOK num den t k):2*(frB num den (10^t)).2≤10^t:=frB_half num den _ h.hd h.h2 (even_ten (by have:=h.t0;omega))
theorem RtOK.pw {num den t k:Nat} (h:RtOK num den t k) (i:Nat):(rpP (frB num den (10^t)) (10^t) i).1≤10^t∧(rpP (frB num den (10^t)) (10^t) i).2≤10^t:=by
 obtain ⟨a,b⟩:=frB_w num den (10^t)
 have c:=(rpP_wd (ten12' h.t0) h.half a b i).2
 have d:=rpP_le (ten12' h.t0) h.half i
 omega
theorem RtOK.sm {num den t k:Nat} (h:RtOK num den t k) (i:Nat) (hi:i≤12000000010):(rsP (frB num den (10^t)) (10^t) i).1≤10^(t+12)∧(rsP (frB num den (10^t)) (10^t) i).2≤10^(t+12):=by
 obtain ⟨a,b⟩:=frB_w num den (10^t)
 have t12:=ten12' h.t0
 have c:=(rsP_wd t12 h.half a b i).2
 have d:=rsP_top t12 h.half i
 have e:(i+1)*(10^t+1)≤10^12*10^t:=by
  have f:(i+1)*(10^t+1)≤12000000011*(10^t*2):=Nat.mul_le_mul (by omega) (by omega)
  have g:12000000011*(10^t*2)=24000000022*10^t:=by rw [Nat.mul_comm (10^t),←Nat.mul_assoc]
  have k:24000000022*10^t≤10^12*10^t:=Nat.mul_le_mul_right _ (by decide)
  omega
 have f:10^12*10^t=10^(t+12):=by rw [←Nat.pow_add];congr 1;omega
 omega
open Go.RowKit
theorem BV.zero {tb ti:TypeId} {w:World}:BV tb ti (w.alloc (.cells #[.bool false,.slice none 0 0,.bool false,.slice none 0 0] tb)) w.heap.size (0,0):=
 ⟨none,0,none,0,BC.made rfl,Nz.nil' none 0 (Nat.zero_le _),Nz.nil' none 0 (Nat.zero_le _)⟩
end Go.Ulp
namespace Go.Proofs.YtehhegbkahnhgaaGreatDoor
open Go.RowKit Go.Ulp
set_option maxHeartbeats 4000000
set_option maxRecDepth 100000
end Go.Proofs.YtehhegbkahnhgaaGreatDoor
namespace Go.Ulp
open Go.RowKit
end Go.Ulp
namespace Go.Proofs.YtehhegbkahnhgaaGreatDoor
open Go.RowKit Go.Ulp
set_option maxHeartbeats 4000000
set_option maxRecDepth 100000
theorem zNneg_any (n:Nat) (h0:0<n) (hn:n≤1000000000) (w:World):
 Calls Tryz.prog 38 #[.int .i64 (-(n:Int))] w fun e w'=>RetZ 3 w (-(n:Int)) e w':=by
 have hneg: -(n:Int)<0:=by omega
 go_enter Tryz.func38,Tryz.ntmps38
 go_wp2_with fail
 go_loopw [0,4] (fun r _ wr=> ∃(rr:Nat) (Q:List Nat) (v:Value),r=.int .i64 (-(rr:Int))∧rr≤n∧dval Q+10000^Q.length*rr=n∧Dec Q∧(rr=0→Trim Q)∧Own (w.heap.size+1+1) 3 .i64 wr v Q∧ZL 47 wr w.heap.size false (.slice none 0 0)∧ZL 47 wr (w.heap.size+1) true v∧Below w.heap.size w wr) (fun r _ _=>(-(intOf r)).toNat)
 case atStart=>exact ⟨n,[],_,rfl,Nat.le_refl _,by simp [dval,val],AllLt.nil,fun _ h=>absurd rfl h,Own.nil,(ZL.made rfl).alloc _,ZL.made (by simp),by (repeat' first|(with_reducible first|apply bR|assumption|apply bN|apply bD|apply bL|apply bS)|go_size)⟩
 case round=>
  obtain ⟨rr,Q,v,rfl,hrn,hv,lQ,hT,hown,zR,zO,hb⟩:=hrel
  have hsz:=zO.lt
  have HV:=hid hv
  clear hv
  obtain ⟨kO0,kO1,fO0,fO1,-⟩:=id zO
  obtain ⟨kR0,kR1,fR0,fR1,hsR⟩:=id zR
  by_cases h0:rr=0
  ·subst h0
   have hval:Q=zl (-(n:Int)):=by
    have:=HV.out
    rw [Nat.mul_zero,Nat.add_zero] at this
    unfold zl;rw [Int.natAbs_neg,Int.natAbs_natCast,←this]
    exact (digs_val 10000 (by omega) Q lQ (hT rfl)).symm
   have hz:=hid (show zneg (-(n:Int))=true by unfold zneg;simp;omega)
   obtain ⟨ao1,cap1,rfl,hN1⟩:=hown.nz
   have HQ:=hid hval
   clear hval hT
   go_wp2_with fail
   refine bodyPost_ret (by simp [results,Tryz.results38,go_sem,kR0,kR1];try rfl) rfl ?_
   refine ⟨ao1,cap1,by rw [hz.out,←HQ.out],?_,(hb.setCell (by simp) _).setCell (by simp) _⟩
   rw [←HQ.out]
   exact (hN1.setCell hsR (by decide) _ _).setCell (hsR.setCell _ _) (by decide) _ _
  ·have hk:Q.length<64:=by
    rcases Nat.lt_or_ge Q.length 64 with h|h
    ·exact h
    ·exfalso
     have h1:10000^Q.length*1≤10000^Q.length*rr:=Nat.mul_le_mul_left _ (by omega)
     have h2:2^64≤10000^Q.length:=Nat.le_trans (Nat.pow_le_pow_left (by omega) 64) (Nat.pow_le_pow_right (by omega) h)
     have h3:=HV.out
     omega
   have hne:(-(rr:Int) !=0)=true:=by simp;omega
   have hmd:(-(rr:Int)).tmod 10000= -((rr%10000:Nat):Int):=by rw [Int.neg_tmod];rfl
   have hdv:(-(rr:Int)).tdiv 10000= -((rr/10000:Nat):Int):=by rw [Int.neg_tdiv];rfl
   have hlm:=Nat.mod_lt rr (show 0<10000 by omega)
   have hld:=Nat.div_le_self rr 10000
   have KEY:=hid (show dval (Q++ [rr%10000])+10000^(Q++ [rr%10000]).length*(rr/10000)=n from by
    have:=HV.out
    have e:=Nat.mod_add_div rr 10000
    have e2:=congrArg (fun z=>10000^Q.length*z) e
    simp only [Nat.mul_add] at e2
    unfold dval at *
    rw [val_snoc,List.length_append,List.length_singleton,Nat.pow_succ,Nat.mul_assoc];omega)
   have HTR:=hid (show rr/10000=0→Trim (Q++ [rr%10000]) from fun h=>by
    intro hn
    rw [List.getLast_append_of_ne_nil _ (by simp)];simp;omega)
   have HLS:=hid (show rr/10000<rr from by omega)
   clear hT
   obtain ⟨r,hr⟩: ∃r,r=rr%10000:=⟨_,rfl⟩
   obtain ⟨q,hq⟩: ∃q,q=rr/10000:=⟨_,rfl⟩
   rw [←hr] at hmd hlm KEY HTR
   rw [←hq] at hdv hld KEY HTR HLS
   clear hr hq
   by_cases hr0: -(r:Int)<0
   ·go_wp2_with (at_builtin;refine wpList_push ei_int (by omega) rfl _ _ rfl (w.heap.size+1+1) Q r _ rfl (Own.alloc hown _) ⟨wr.heap.size,0,none⟩ rfl (cell_push _ _ _ _ _ (by omega)) (by omega) (by simp;omega) ?_;intro v1 w1 hown1 hb1;obtain ⟨ao1,nn1,cap1,rfl⟩:=hown1.slice;obtain ⟨hc1,hf1⟩:=bcellB hb1)
    go_roundw
    case rel=>exact ⟨q,Q++ [r],.slice ao1 nn1 cap1,by go_num,by omega,KEY.out,AllLt.append.2 ⟨lQ,AllLt.cons.2 ⟨hlm,AllLt.nil⟩⟩,HTR.out,
     hown1.set_other _ (by simp) _,((zR.alloc _).belowB hb1 (by omega)).far _ _ (by simp),((zO.alloc _).belowB hb1 (by omega)).set1 _,((hb.trans ((below_alloc wr _).mono hb.size)).trans (hb1.mono (by omega))).setCell (by simp) _⟩
    case measure=>have:=HLS.out;simp [intOf];omega
   ·obtain rfl:r=0:=by omega
    go_wp2_with (at_builtin;refine wpList_push ei_int (by omega) rfl _ _ rfl (w.heap.size+1+1) Q 0 _ rfl (Own.alloc hown _) ⟨wr.heap.size,0,none⟩ rfl (cell_push _ _ _ _ _ (by omega)) (by omega) (by simp;omega) ?_;intro v1 w1 hown1 hb1;obtain ⟨ao1,nn1,cap1,rfl⟩:=hown1.slice;obtain ⟨hc1,hf1⟩:=bcellB hb1)
    go_roundw
    case rel=>exact ⟨q,Q++ [0],.slice ao1 nn1 cap1,by go_num,by omega,KEY.out,AllLt.append.2 ⟨lQ,AllLt.cons.2 ⟨hlm,AllLt.nil⟩⟩,HTR.out,
     hown1.set_other _ (by simp) _,((zR.alloc _).belowB hb1 (by omega)).far _ _ (by simp),((zO.alloc _).belowB hb1 (by omega)).set1 _,((hb.trans ((below_alloc wr _).mono hb.size)).trans (hb1.mono (by omega))).setCell (by simp) _⟩
    case measure=>have:=HLS.out;simp [intOf];omega
theorem zNI (k:Int) (h0: -1000000000≤k) (h1:k≤1000000000) (w:World):Calls Tryz.prog 38 #[.int .i64 k] w (RetZD 3 w k):=by
 rcases Int.lt_or_le k 0 with h|h
 ·obtain ⟨n,hn⟩: ∃n:Nat,k= -(n:Int):=⟨k.natAbs,by omega⟩
  subst hn
  exact (zNneg_any n (by omega) (by omega) w).mono fun _ _ h=>h.zd
 ·exact zND k h (by omega) w
end Go.Proofs.YtehhegbkahnhgaaGreatDoor
namespace Go.Ulp
theorem RtOK.top {num den t k:Nat} (h:RtOK num den t k):(rtP (frB num den (10^t)) (10^t) k).1≤10^(t+13)∧(rtP (frB num den (10^t)) (10^t) k).2≤10^(t+13):=by
 have k1:=h.k1
 have t1:=h.t1
 obtain ⟨a,b⟩:=h.sm k (by omega)
 have e:10^(t+13)=10^(t+12)*10:=Nat.pow_succ 10 (t+12)
 have f:10^12≤10^(t+12):=Nat.pow_le_pow_right (by omega) (by omega)
 show 2*_≤_∧2*(_+9)≤_
 omega
open Go.RowKit
theorem PI.below {ti:TypeId} {w w':World} {x:Int×Int} {v:Value} (h:PI ti w x v) (hb:Below w.heap.size w w'):PI ti w' x v:=by
 obtain ⟨a,c,b,d,h1,h2,h3⟩:=h;exact ⟨a,c,b,d,h1,h2.below hb,h3.below hb⟩
def Fact.pi (ti:TypeId) (x:Int×Int):Fact:=⟨fun v w=>PI ti w x v,fun _ _ _ h hb=>h.below hb⟩
end Go.Ulp
namespace Go.Proofs.YtehhegbkahnhgaaGreatDoor
open Go.RowKit Go.Ulp
set_option maxHeartbeats 4000000
set_option maxRecDepth 100000
end Go.Proofs.YtehhegbkahnhgaaGreatDoor
namespace Go.Ulp
open Go.RowKit
theorem bs_below (D:Dy) (mode:Int) (m0:0≤mode) (m1:mode≤4) (h0:D.1≠0) (hE: -1075≤D.2) (c:Int) (hc:c=sg (decide (D.1<0)) ((D.1.natAbs*2^(D.2+1075).toNat:Nat):Int)):Rnd 2 (2*c-1) mode (bsX D (-1) mode) (bsC D (-1) mode):=by
 obtain ⟨s,hs⟩: ∃s:Nat,s=3000:=⟨_,rfl⟩
 have h:=beside_rnd (decide (D.1<0)) D.1.natAbs D.2 (-1) mode s m0 m1 (fun h=>by omega) (by omega) (by omega) (.inl rfl)
 have hp:0<D.1.natAbs*2^(D.2+1075).toNat:=Nat.mul_pos (by omega) (Nat.two_pow_pos _)
 have hc0:c≠0:=by rw [hc];unfold sg;split<;>omega
 have e:4*sg (decide (D.1<0)) ((D.1.natAbs*2^(D.2+1074+(s:Int)).toNat:Nat):Int)+ -1=c*pw (s+1)-1:=by
  have e1:(D.2+1075).toNat+(s+1)=(D.2+1074+(s:Int)).toNat+2:=by omega
  have e2:D.1.natAbs*2^(D.2+1075).toNat*2^(s+1)=4*(D.1.natAbs*2^(D.2+1074+(s:Int)).toNat):=by
   rw [Nat.mul_assoc,←Nat.pow_add,e1,Nat.pow_add,←Nat.mul_assoc,Nat.mul_comm]
  have e3:c*pw (s+1)=sg (decide (D.1<0)) ((D.1.natAbs*2^(D.2+1075).toNat*2^(s+1):Nat):Int):=by
   rw [hc,pw_nat,Int.natCast_mul _ (2^(s+1))]
   unfold sg
   split
   ·rw [Int.neg_mul]
   ·rfl
  rw [e3,e2]
  unfold sg
  split<;>omega
 rw [e] at h
 exact (blw_of s c _ hc0 rfl).rnd (blw_two c hc0) h
theorem above_cmp (G c K:Int) (hK:2≤K):cmpI (G*K) (c*K+1)=if G≤c then -1 else 1:=by
 by_cases h:G≤c
 ·rw [if_pos h]
  have:G*K≤c*K:=Int.mul_le_mul_of_nonneg_right (by omega) (by omega)
  exact cmpI_l (by omega)
 ·rw [if_neg h]
  have:(c+1)*K≤G*K:=Int.mul_le_mul_of_nonneg_right (by omega) (by omega)
  rw [Int.add_mul,Int.one_mul] at this
  exact cmpI_g (by omega)
def Abv (s:Nat) (V c:Int):Prop:=(∀r,cR s V r=if 2*rvs r≤c then -1 else 1)∧(∀r,cM s V r= -(if rvs r+rvs (r+1)≤c then -1 else 1))∧cmpI V 0=if 0≤c then 1 else -1
theorem Abv.rnd {s t:Nat} {V U c mode X:Int} {ch:Bool} (h:Abv s V c) (k:Abv t U c) (r:Rnd s V mode X ch):Rnd t U mode X ch:=
 r.same (fun r=>(h.1 r).trans (k.1 r).symm) (fun r=>(h.2.1 r).trans (k.2.1 r).symm) (h.2.2.trans k.2.2.symm)
theorem abv_of (s:Nat) (c V:Int) (hV:V=c*pw (s+1)+1):Abv (s+2) V c:=by
 have hK:2≤pw (s+1):=by rw [pw_add,show pw 1=2 by decide];have:=pw_pos s;omega
 have e2:pw (s+2)=2*pw (s+1):=by rw [show s+2=s+1+1 from rfl,pw_add (s+1),show pw 1=2 by decide,Int.mul_comm]
 refine ⟨fun r=>?_,fun r=>?_,?_⟩
 ·unfold cR rT
  rw [←above_cmp _ _ _ hK,←hV,e2]
  congr 1
  rw [←Int.mul_assoc,Int.mul_comm (rvs r)]
 ·unfold cM rT
  rw [cmpI_swap,←above_cmp _ _ _ hK,←hV,e2]
  congr 1
  have: ∀a b:Int,cmpI (2*a) (2*b)=cmpI a b:=by intro a b;unfold cmpI;split<;>split<;>(try split)<;>(try split)<;>omega
  rw [←this ((rvs r+rvs (r+1))*pw (s+1)) V,←Int.add_mul]
  generalize rvs r+rvs (r+1)=y
  congr 1
  rw [←Int.mul_assoc,Int.mul_comm y,Int.mul_assoc]
 ·rw [hV]
  by_cases h:0≤c
  ·rw [if_pos h]
   have:0≤c*pw (s+1):=Int.mul_nonneg h (by omega)
   exact cmpI_g (by omega)
  ·rw [if_neg h]
   have:c*pw (s+1)≤(-1)*pw (s+1):=Int.mul_le_mul_of_nonneg_right (by omega) (by omega)
   exact cmpI_l (by omega)
theorem abv_two (c:Int):Abv 2 (2*c+1) c:=abv_of 0 c (2*c+1) (by rw [show pw (0+1)=2 by decide];omega)
theorem sg_not (n:Bool) (k:Int): -sg n k=sg (!n) k:=by cases n<;>simp [sg]
theorem far_up (n neg:Bool) (B f M E:Nat) (hB:B≤18014398509481984) (hM:M<9007199254740992) (hM0:0<M) (h:sg neg ((M*2^E:Nat):Int)<sg n ((B*2^f:Nat):Int)):
 sg neg ((M*2^E:Nat):Int)*288230376151711744+((M*2^E:Nat):Int)<sg n ((B*2^f:Nat):Int)*288230376151711744:=by
 have:=far_rel (!n) (!neg) B f M E hB hM hM0 (by rw [←sg_not,←sg_not];omega)
 rw [←sg_not,←sg_not] at this
 omega
theorem abv_far (neg:Bool) (M E d:Nat) (hM:M<9007199254740992) (hM0:0<M) (hd:d=1075+58) (c:Int) (hc:c=sg neg ((M*2^E:Nat):Int)):Abv 2 (st (c*288230376151711744+(c.natAbs:Int)) (2^d)) c:=by
 have hp:0<M*2^E:=Nat.mul_pos hM0 (Nat.two_pow_pos E)
 have ha:(c.natAbs:Int)=((M*2^E:Nat):Int):=by rw [hc];unfold sg;split<;>omega
 have hP:0<2^d:=Nat.two_pow_pos d
 have ed:((2^d:Nat):Int)=288230376151711744*pw 1075:=by
  rw [←pw_nat,hd,pw_add,show pw 58=288230376151711744 by decide,Int.mul_comm]
 have key: ∀G:Int,(∃n B f,G=sg n ((B*2^f:Nat):Int)∧B≤18014398509481984)→cmpI (G*((2^d:Nat):Int)) ((c*288230376151711744+(c.natAbs:Int))*pw 1075)=if G≤c then -1 else 1:=by
  rintro G ⟨n,B,f,hG,hB⟩
  have e1:G*((2^d:Nat):Int)=pw 1075*(G*288230376151711744):=by
   rw [ed]
   generalize pw 1075=P
   rw [←Int.mul_assoc,Int.mul_comm]
  rw [e1,Int.mul_comm (c*288230376151711744+(c.natAbs:Int)),cmpI_pos_mul _ _ _ (pw_pos _)]
  by_cases h:G≤c
  ·rw [if_pos h]
   exact cmpI_l (by omega)
  ·rw [if_neg h]
   have:=far_up n neg B f M E hB hM hM0 (by rw [←hG,←hc];omega)
   rw [←hG,←hc,←ha] at this
   exact cmpI_g this
 refine ⟨fun r=>?_,fun r=>?_,?_⟩
 ·rw [cR_st _ _ hP]
  apply key
  obtain ⟨q,h,n,e,hq⟩:=rT_rep 1 r
  refine ⟨n,q,h+1,?_,by omega⟩
  rw [←e]
  unfold rT
  rw [show pw 1=2 by decide,Int.mul_comm]
 ·rw [cM_st _ _ hP]
  congr 1
  apply key
  obtain ⟨q,h,n,e,hq⟩:=rT_mid_rep 0 r
  refine ⟨n,2*q+1,h,?_,by omega⟩
  have e':rT 0 r+rT 0 (r+1)=sg n (((2*q+1)*2^h:Nat):Int):=e
  rw [←e']
  unfold rT
  rw [pw_zero,Int.mul_one,Int.mul_one]
 ·rw [st_sign _ _ hP]
  by_cases h:0≤c
  ·rw [if_pos h];exact cmpI_g (by omega)
  ·rw [if_neg h];exact cmpI_l (by omega)
theorem bs_above (D:Dy) (mode:Int) (m0:0≤mode) (m1:mode≤4) (h0:D.1≠0) (hE: -1075≤D.2) (c:Int) (hc:c=sg (decide (D.1<0)) ((D.1.natAbs*2^(D.2+1075).toNat:Nat):Int)):Rnd 2 (2*c+1) mode (bsX D 1 mode) (bsC D 1 mode):=by
 obtain ⟨s,hs⟩: ∃s:Nat,s=3000:=⟨_,rfl⟩
 have h:=beside_rnd (decide (D.1<0)) D.1.natAbs D.2 1 mode s m0 m1 (fun h=>by omega) (by omega) (by omega) (.inr rfl)
 have e:4*sg (decide (D.1<0)) ((D.1.natAbs*2^(D.2+1074+(s:Int)).toNat:Nat):Int)+1=c*pw (s+1)+1:=by
  have e1:(D.2+1075).toNat+(s+1)=(D.2+1074+(s:Int)).toNat+2:=by omega
  have e2:D.1.natAbs*2^(D.2+1075).toNat*2^(s+1)=4*(D.1.natAbs*2^(D.2+1074+(s:Int)).toNat):=by
   rw [Nat.mul_assoc,←Nat.pow_add,e1,Nat.pow_add,←Nat.mul_assoc,Nat.mul_comm]
  have e3:c*pw (s+1)=sg (decide (D.1<0)) ((D.1.natAbs*2^(D.2+1075).toNat*2^(s+1):Nat):Int):=by
   rw [hc,pw_nat,Int.natCast_mul _ (2^(s+1))]
   unfold sg
   split
   ·rw [Int.neg_mul]
   ·rfl
  rw [e3,e2]
  unfold sg
  split<;>omega
 rw [e] at h
 exact (abv_of s c _ rfl).rnd (abv_two c) h
theorem rvi_tv9: ∃F:Nat,F=2098∧rvi 9218868437227405312=2^F:=⟨52+2046,rfl,rvi_pow 2046⟩
def bigX (mode:Int):Int:=if upR false mode 1 9218868437227405312=true then 9218868437227405312 else 9218868437227405311
theorem rnd_big {V mode X:Int} {ch:Bool} (h:Rnd 2 V mode X ch) (F:Nat) (hF:F=2100) (hV:((2^F:Nat):Int)≤V):X=bigX mode:=by
 obtain ⟨l,hl,e⟩:=h
 have top:rT 2 9218868437227405312=((2^F:Nat):Int):=by
  have:=rT_nat 2 9218868437227405312
  obtain ⟨F0,h0,h1⟩:=rvi_tv9
  rw [h1,←Nat.pow_add,show F0+2=F by omega] at this
  exact this
 have lt1:=rT_mono 2 (show (9218868437227405311:Int)<9218868437227405312 by omega)
 rw [top] at lt1
 have hc:cR 2 V 9218868437227405311<0:=by unfold cR;exact (cmpI_lt _ _).2 (by omega)
 have hl2:IsLow (cR 2 V) 9218868437227405311:=⟨by omega,by omega,.inr (by omega),.inl rfl⟩
 have el:=low_uniq hl hl2
 subst el
 have f:=congrArg Prod.fst e
 simp only at f
 rw [f]
 have hpos:(0:Int)<((2^F:Nat):Int):=by have:=Nat.two_pow_pos F;omega
 have hz:cmpI V 0=1:=cmpI_g (by omega)
 have hm:cM 2 V 9218868437227405311=1:=by
  unfold cM
  rw [show (9218868437227405311:Int)+1=9218868437227405312 from rfl,top]
  exact cmpI_g (by omega)
 unfold ansR
 rw [if_neg (by omega),hz,hm,show decide ((1:Int)<0)=false from rfl,show (9218868437227405311:Int)+1=9218868437227405312 from rfl]
 unfold bigX
 split
 ·exact tell_pos 9218868437227405312 (by omega)
 ·exact tell_pos 9218868437227405311 (by omega)
theorem EE_16:(163:Rat)/60≤EE 1 6:=by
 unfold EE
 simp only [sumQ,ep]
 have a1:((0+1:Nat):Rat)=1:=rfl
 have a2:((1+1:Nat):Rat)=2:=rfl
 have a3:((2+1:Nat):Rat)=3:=rfl
 have a4:((3+1:Nat):Rat)=4:=rfl
 have a5:((4+1:Nat):Rat)=5:=rfl
 rw [a1,a2,a3,a4,a5]
 grind
theorem EE_7k (k j:Nat): ∃T,(2:Rat)^(10*k+j)≤EE (((7*k+j:Nat):Rat)) T:=by
 obtain ⟨T,hT⟩:=EE_pow_ge 1 (by grind) (7*k+j) 6
 rw [Rat.mul_one] at hT
 refine ⟨T,Rat.le_trans ?_ hT⟩
 have h:=EE_16
 have r0:(0:Rat)≤163/60:=by grind
 generalize EE 1 6=E at *
 rw [pow_add',pow_add',pow_mul',pow_mul']
 have h7:(2:Rat)^10≤E^7:=by
  have a:=pow_le_pow' r0 h 7
  refine Rat.le_trans ?_ a
  grind
 have hE0:0≤E:=by grind
 have b1:=pow_le_pow' (show (0:Rat)≤2^10 by grind) h7 k
 have b2:=pow_le_pow' (show (0:Rat)≤2 by grind) (show (2:Rat)≤E by grind) j
 exact mul_le_mul2 (Rat.pow_nonneg (by grind)) b1 (Rat.pow_nonneg (by grind)) b2
theorem EE_sq (y:Rat) (hy:0≤y) (h:2*y≤1) (T:Nat):EE y T≤1+y+y*y:=by
 have a:=EE_rest y hy h 2 T
 have e3:EE y 3=EE y 2+ep y 2:=rfl
 have s:=ep_succ y 1
 have e1:ep y 1=y:=by
  have s0:=ep_succ y 0
  have o:((0+1:Nat):Rat)=1:=rfl
  have z:ep y 0=1:=rfl
  rw [o,z] at s0
  grind
 have o2:((1+1:Nat):Rat)=2:=rfl
 rw [o2,e1] at s
 have e2':ep y (1+1)=ep y 2:=rfl
 rw [e2'] at s
 rw [show EE y (2+1)=EE y 3 from rfl,e3,EE_two] at a
 grind
theorem EE_3 (y:Rat):EE y 3=1+y+y*y/2:=by
 have e3:EE y 3=EE y 2+ep y 2:=rfl
 have s:=ep_succ y 1
 have e1:ep y 1=y:=by
  have s0:=ep_succ y 0
  have o:((0+1:Nat):Rat)=1:=rfl
  have z:ep y 0=1:=rfl
  rw [o,z] at s0
  grind
 have o2:((1+1:Nat):Rat)=2:=rfl
 rw [o2,e1] at s
 have e2':ep y (1+1)=ep y 2:=rfl
 rw [e2'] at s
 rw [e3,EE_two]
 grind
end Go.Ulp
