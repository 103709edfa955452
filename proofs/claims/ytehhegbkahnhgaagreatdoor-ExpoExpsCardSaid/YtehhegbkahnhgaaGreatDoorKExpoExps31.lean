/- ExpoExps: what the proof leans on, part 31 (Lj3). -/
import Derived.Test.YtehhegbkahnhgaaGreatDoorKExpoExps30
set_option linter.unusedVariables false
set_option linter.unusedSimpArgs false
namespace Go.Ulp
open Go.RowKit
def XpTold (x mode Y:Int) (c:Bool):Prop:= ∀X ch,XpSaid x mode X ch→Y=X∧c=ch
def XmTold (x mode Y:Int) (c:Bool):Prop:= ∀X ch,XmSaid x mode X ch→Y=X∧c=ch
theorem neg_fv (x:Int) (h0:0≤x) (h1:x<18446744073709551616) (hc1:classOf x≠1):negB x=decide ((fv x).1<0):=by
 have h3:=fv_sgn9 x h0 h1
 have h6:absOf x≠0:=fun h=>hc1 ((class_zer x h0 h1).2 h)
 unfold absOf at h6
 unfold sgn at h3
 unfold negB
 apply decide_eq_decide.2
 unfold rankOf at h3
 constructor
 ·intro h
  rw [if_pos h] at h3
  exact (cmpI_lt _ _).1 (by rw [h3];exact (cmpI_lt _ _).2 (by omega))
 ·intro h
  by_cases h9:9223372036854775808≤x
  ·exact h9
  ·exfalso
   rw [if_neg h9] at h3
   have:=(cmpI_lt _ _).2 h
   rw [h3] at this
   have:=(cmpI_lt _ _).1 this
   omega
theorem inf_two (x:Int) (h0:0≤x) (h1:x<18446744073709551616) (c4:classOf x=4):(negB x=false→x=9218868437227405312)∧(negB x=true→x=18442240474082181120):=by
 have hab:=(class_inf x h0 h1).1 c4
 unfold absOf at hab
 unfold negB
 constructor
 ·intro h
  have:=of_decide_eq_false h
  omega
 ·intro h
  have:=of_decide_eq_true h
  omega
theorem not_inf (x:Int) (h0:0≤x) (h1:x<18446744073709551616) (c4:classOf x≠4):x≠9218868437227405312∧x≠18442240474082181120:=
 ⟨fun h=>c4 ((class_inf x h0 h1).2 (by rw [h];decide)),fun h=>c4 ((class_inf x h0 h1).2 (by rw [h];decide))⟩
theorem eb_in {D:Dy} (hI:IsN D) (h0:D.1≠0) (hM:D.1.natAbs<2^53) (hz: -1074≤D.2) (k l:Nat) (hk:k≤800) (hl:l≤800) (h1: ¬0<cmpD D (nrm (k:Int) 0)) (h2: ¬cmpD D (nrm (-(l:Int)) 0)<0):EbIn D 800:=by
 obtain ⟨a,b⟩:=in_dy hI hz k l h1 h2
 have e1:=natle hk
 have e2:=natle hl
 refine ⟨hI,h0,lt_1280 hM,by omega,rfl,?_⟩
 by_cases hn:D.1<0
 ·exact Rat.le_trans (b hn) e2
 ·exact Rat.le_trans (a hn) e1
theorem half40 (q:Int) (h: -760≤q∧q≤0): ∃(ta:Int) (t0:Nat),q.tdiv 2=ta∧IntKind.i64.wrap ta=ta∧IntKind.i64.wrap (40-ta)=(t0:Int)∧20≤t0∧t0≤2000:=by
 obtain ⟨ta,tc,e1,e2,e3,e4,e5⟩:=tdiv2 q
 exact ⟨ta,(40-ta).toNat,e1,IntWalk.i64_in _ (by omega),by rw [IntWalk.i64_in _ (by omega)];omega,by omega,by omega⟩
end Go.Ulp
namespace Go.Proofs.YtehhegbkahnhgaaGreatDoor
open Go.RowKit Go.Ulp
set_option maxHeartbeats 4000000
set_option maxRecDepth 100000
theorem expBits_any (x:Int) (h0:0≤x) (h1:x<18446744073709551616) (mode:Int) (m0:0≤mode) (m1:mode≤4) (w:World):
 Calls Tryz.prog 14 #[.int .u64 x,.int .i64 mode] w (RetLB w (XpTold x mode)):=by
 have IN:=hid (fun w=>rIsNan_any x h0 h1 w)
 have II:=hid (fun w=>rIsInf_any x h0 h1 w)
 have IZ:=hid (fun w=>rIsZero_any x h0 h1 w)
 have IM:=hid (fun w=>rMinus_any x h0 h1 w)
 have QN:=hid (fun w=>rQuiet_any w)
 have nan5:isNan x=(classOf x==5):=rfl
 have inf4:isInf x=(classOf x==4):=rfl
 have zer1:isZer x=(classOf x==1):=rfl
 rw [nan5] at IN
 rw [inf4] at II
 rw [zer1] at IZ
 clear nan5 inf4 zer1
 by_cases c5:classOf x=5
 ·have HS:=hid (show XpTold x mode 9221120237041090560 false from fun X ch k=>by unfold XpSaid at k;rw [if_pos c5] at k;exact ⟨k.1.symm,k.2.symm⟩)
  rw [c5] at IN II IZ
  clear c5
  go_enter Tryz.func14,Tryz.ntmps14
  go_wp2_with (first
   |(go_at_call 27;(with_reducible refine (IN.out _).mono ?_);rintro en w1 ⟨rfl,rfl⟩)
   |(go_at_call 29;(with_reducible refine (II.out _).mono ?_);rintro en w1 ⟨rfl,rfl⟩)
   |(go_at_call 31;(with_reducible refine (IZ.out _).mono ?_);rintro en w1 ⟨rfl,rfl⟩)
   |(go_at_call 30;(with_reducible refine (IM.out _).mono ?_);rintro en w1 ⟨rfl,rfl⟩)
   |(go_at_call 28;(with_reducible refine (QN.out _).mono ?_);rintro en w1 ⟨rfl,rfl⟩))
  go_ret2
  exact ⟨_,_,HS.out,rfl,Below.refl _ _⟩
 have z5:(classOf x==5)=false:=beq_eq_false_iff_ne.2 c5
 rw [z5] at IN
 by_cases c1:classOf x=1
 ·have HS:=hid (show XpTold x mode 4607182418800017408 false from fun X ch k=>by unfold XpSaid at k;rw [if_neg c5,if_pos c1] at k;exact ⟨k.1.symm,k.2.symm⟩)
  rw [c1] at II IZ
  clear c5 z5 c1
  go_enter Tryz.func14,Tryz.ntmps14
  go_wp2_with (first
   |(go_at_call 27;(with_reducible refine (IN.out _).mono ?_);rintro en w1 ⟨rfl,rfl⟩)
   |(go_at_call 29;(with_reducible refine (II.out _).mono ?_);rintro en w1 ⟨rfl,rfl⟩)
   |(go_at_call 31;(with_reducible refine (IZ.out _).mono ?_);rintro en w1 ⟨rfl,rfl⟩)
   |(go_at_call 30;(with_reducible refine (IM.out _).mono ?_);rintro en w1 ⟨rfl,rfl⟩)
   |(go_at_call 28;(with_reducible refine (QN.out _).mono ?_);rintro en w1 ⟨rfl,rfl⟩))
  go_ret2
  exact ⟨_,_,HS.out,rfl,Below.refl _ _⟩
 have z1:(classOf x==1)=false:=beq_eq_false_iff_ne.2 c1
 rw [z1] at IZ
 by_cases c4:classOf x=4
 ·obtain ⟨i1,i2⟩:=inf_two x h0 h1 c4
  rw [c4] at II
  cases hn:negB x
  ·have ci:=i1 hn
   have HS:=hid (show XpTold x mode x false from fun X ch k=>by unfold XpSaid at k;rw [if_neg c5,if_neg c1,if_pos ci] at k;exact ⟨k.1.symm,k.2.symm⟩)
   rw [hn] at IM
   clear c5 z5 c4 c1 z1 hn i1 i2 ci
   go_enter Tryz.func14,Tryz.ntmps14
   go_wp2_with (first
    |(go_at_call 27;(with_reducible refine (IN.out _).mono ?_);rintro en w1 ⟨rfl,rfl⟩)
    |(go_at_call 29;(with_reducible refine (II.out _).mono ?_);rintro en w1 ⟨rfl,rfl⟩)
    |(go_at_call 31;(with_reducible refine (IZ.out _).mono ?_);rintro en w1 ⟨rfl,rfl⟩)
    |(go_at_call 30;(with_reducible refine (IM.out _).mono ?_);rintro en w1 ⟨rfl,rfl⟩)
    |(go_at_call 28;(with_reducible refine (QN.out _).mono ?_);rintro en w1 ⟨rfl,rfl⟩))
   go_ret2
   exact ⟨_,_,HS.out,rfl,Below.refl _ _⟩
  ·have ci:=i2 hn
   have HS:=hid (show XpTold x mode 0 false from fun X ch k=>by unfold XpSaid at k;rw [if_neg c5,if_neg c1,if_neg (by omega),if_pos ci] at k;exact ⟨k.1.symm,k.2.symm⟩)
   rw [hn] at IM
   clear c5 z5 c4 c1 z1 hn i1 i2 ci
   go_enter Tryz.func14,Tryz.ntmps14
   go_wp2_with (first
    |(go_at_call 27;(with_reducible refine (IN.out _).mono ?_);rintro en w1 ⟨rfl,rfl⟩)
    |(go_at_call 29;(with_reducible refine (II.out _).mono ?_);rintro en w1 ⟨rfl,rfl⟩)
    |(go_at_call 31;(with_reducible refine (IZ.out _).mono ?_);rintro en w1 ⟨rfl,rfl⟩)
    |(go_at_call 30;(with_reducible refine (IM.out _).mono ?_);rintro en w1 ⟨rfl,rfl⟩)
    |(go_at_call 28;(with_reducible refine (QN.out _).mono ?_);rintro en w1 ⟨rfl,rfl⟩))
   go_ret2
   exact ⟨_,_,HS.out,rfl,Below.refl _ _⟩
 have z4:(classOf x==4)=false:=beq_eq_false_iff_ne.2 c4
 rw [z4] at II
 obtain ⟨ci,cm⟩:=not_inf x h0 h1 c4
 rw [neg_fv x h0 h1 c1] at IM
 have hnz:=fv_nz x h0 h1 c1
 obtain ⟨at1,at2⟩:=abs_top x h0 h1 hnz
 obtain ⟨-,b1,b2,b3⟩:=fv_bd x h0 h1
 have hI:IsN (fv x):=nrm_isN _ _
 have TN:=hid (show ∀Y c,(∀X ch,XpNum (fv x) mode X ch→Y=X∧c=ch)→XpTold x mode Y c from fun Y c h X ch k=>h X ch (xp_num c5 c1 ci cm k))
 have QV:=hid (fun w=>qval_any x h0 h1 w)
 have Q720:=hid (fun w=>qintn_any 720 (by omega) w)
 have Q760:=hid (fun w=>qintn_any (-760) (by omega) w)
 have QC1:=hid (fun v u w h k=>qcmp_any v u (fv x) (nrm 720 0) 1200 1100 10 0 w h k (by omega) (by omega) (by omega) (by omega))
 have QC2:=hid (fun v u w h k=>qcmp_any v u (fv x) (nrm (-760) 0) 1200 1100 10 0 w h k (by omega) (by omega) (by omega) (by omega))
 have hmf: ∀fn first cap w,(Instr.makeFunc fn first cap).run Tryz.prog w=.ok (.func fn first cap) w:=fun _ _ _ _=>rfl
 clear c5 z5 c4 z4 c1 z1 ci cm
 generalize classOf x=kk at *
 obtain ⟨k1,hk1⟩: ∃k,k=cmpD (fv x) (nrm 720 0):=⟨_,rfl⟩
 obtain ⟨k2,hk2⟩: ∃k,k=cmpD (fv x) (nrm (-760) 0):=⟨_,rfl⟩
 rw [←hk1] at QC1
 rw [←hk2] at QC2
 have FB:=hid (fun w=>farBits_any 400 mode m0 m1 w (by omega))
 have FT:=hid (fun w=>farBits_any (-400) mode m0 m1 w (by omega))
 by_cases h1:0<k1
 ·have hd1:decide (0<k1)=true:=decide_eq_true h1
  have HS:=hid (show XpTold x mode (bigX mode) true from TN.out _ _ fun X ch k=>xp_big hI (by omega) (by rw [←hk1];exact h1) k)
  have FX:=hid (fun en w w' h=>far_big (w:=w) (w':=w') (e:=en) m0 m1 h)
  clear hk1 hk2 at1 at2 hI hnz b1 b2 b3 m0 m1 FT QC2 Q760 TN
  generalize fv x=D at *
  generalize bigX mode=RX at *
  go_enter Tryz.func14,Tryz.ntmps14
  go_upto_region 10 with (first
   |(go_at_call 27;(with_reducible refine (IN.out _).mono ?_);rintro en w1 ⟨rfl,rfl⟩)
   |(go_at_call 29;(with_reducible refine (II.out _).mono ?_);rintro en w1 ⟨rfl,rfl⟩)
   |(go_at_call 31;(with_reducible refine (IZ.out _).mono ?_);rintro en w1 ⟨rfl,rfl⟩)
   |(go_at_call 34;(with_reducible refine (QV.out _).mono ?_);rintro en w2 ⟨v2,rfl,⟨X2,nn2,a2,c2,rfl,n2,hD2,hX2,hn2⟩,hb2⟩;have HD2:=hid hD2;have HX2:=hid hX2;clear hD2 hX2))
  refine wp_worldZ (fun WW=>Below w.heap.size w WW∧QVr 49 3 WW w2.heap.size D 1200 1100) ⟨below_trans hb2 (below_alloc _ _),⟨_,_,_,QL.made rfl,⟨X2,nn2,a2,c2,rfl,n2.below (below_alloc _ _),HD2.out,HX2.out,hn2⟩⟩⟩ ?_
  obtain ⟨g6,hg6⟩: ∃g,g=w2.heap.size:=⟨_,rfl⟩
  rw [←hg6]
  clear hb2 n2 HD2 HX2 hn2 hg6
  intro W2 ⟨yb2,z6⟩
  refine wp_region_grow 5 [30,31,32,33,29] [Fact.q 3 D 1200 1100,Fact.q 3 (nrm 720 0) 10 0,Fact.is (.int .i64 k1),Fact.is (.bool true),Fact.is (.bool true)] (by kernel_rfl) (by kernel_rfl) ⟨?o0,?o1,?o2,?o3,?o4,trivial⟩ ?after
  case o0=>(refine oQ rfl ?_;intro ρ w1 R hcon hfn hρ hb hp hR;have e6:ρ (.tmp 6)=.pointer (some ⟨g6,0,none⟩):=hρ.tmp 6 rfl;obtain ⟨n8',s8',k8',⟨⟨j0,j1,-⟩,j2,-⟩,d8'⟩:=z6.below hb;clear hρ hp;unfold OpRun;go_simp;exact hR _ _ (Below.refl _ _) d8')
  case o1=>(refine oQ rfl ?_;intro ρ w1 R hcon hfn hρ hb hp hR;clear hρ hp;unfold OpRun;go_simp;(refine (Q720.out _).mono ?_;rintro e wn ⟨v9,rfl,hv9,hbn⟩;exact ⟨_,rfl,hR _ _ hbn hv9⟩))
  case o2=>(refine oQ rfl ?_;intro ρ w1 R hcon hfn hρ hb hp hR;have f30:=hp 0 30 rfl rfl;have f31:=hp 1 31 rfl rfl;clear hρ hp;unfold OpRun;go_simp;(refine (QC1.out _ _ _ f30 f31).mono ?_;rintro e wn ⟨rfl,hbn⟩;exact ⟨_,rfl,hR _ _ hbn rfl⟩))
  case o3=>(refine oQ rfl ?_;intro ρ w1 R hcon hfn hρ hb hp hR;have e32:ρ (.tmp 32)=_:=hp 2 32 rfl rfl;clear hρ hp;unfold OpRun;go_simp;exact hR _ _ (Below.refl _ _) rfl)
  case o4=>(refine oQ rfl ?_;intro ρ w1 R hcon hfn hρ hb hp hR;have e33:ρ (.tmp 33)=_:=hp 3 33 rfl rfl;clear hρ hp;unfold OpRun;go_simp;exact hR _ _ (Below.refl _ _) rfl)
  case after=>
   intro u wn hb hf
   have e29:u 29=_:=hf 4 29 (by omega) rfl
   clear hf
   simp only [putAll,Act.put,List.setIfInBounds_toArray,List.set_cons_zero,List.set_cons_succ,List.drop_succ_cons,List.drop_zero,List.drop_nil]
   rw [e29]
   replace yb2:=below_trans yb2 hb
   replace z6:=z6.below hb
   clear hb
   go_wp2_with (go_at_call 53;(with_reducible refine (FB.out _).mono ?_);rintro en w3 hr3;have hr4:=FX.out _ _ _ hr3;clear hr3;obtain ⟨rfl,hb3⟩:=hr4)
   go_ret2
   exact ⟨_,_,HS.out,rfl,below_trans yb2 hb3⟩
 have hd1:decide (0<k1)=false:=decide_eq_false h1
 by_cases h2:k2<0
 ·have hd2:decide (k2<0)=true:=decide_eq_true h2
  have HS:=hid (show XpTold x mode (vX 1 mode) true from TN.out _ _ fun X ch k=>xp_tiny hI (by omega) m0 m1 (by rw [←hk2];exact h2) k)
  have FX:=hid (fun en w w' h=>far_tiny (w:=w) (w':=w') (e:=en) m0 m1 h)
  clear hk1 hk2 at1 at2 hI hnz b1 b2 b3 m0 m1 FB TN
  generalize fv x=D at *
  generalize vX 1 mode=RX at *
  go_enter Tryz.func14,Tryz.ntmps14
  go_upto_region 10 with (first
   |(go_at_call 27;(with_reducible refine (IN.out _).mono ?_);rintro en w1 ⟨rfl,rfl⟩)
   |(go_at_call 29;(with_reducible refine (II.out _).mono ?_);rintro en w1 ⟨rfl,rfl⟩)
   |(go_at_call 31;(with_reducible refine (IZ.out _).mono ?_);rintro en w1 ⟨rfl,rfl⟩)
   |(go_at_call 34;(with_reducible refine (QV.out _).mono ?_);rintro en w2 ⟨v2,rfl,⟨X2,nn2,a2,c2,rfl,n2,hD2,hX2,hn2⟩,hb2⟩;have HD2:=hid hD2;have HX2:=hid hX2;clear hD2 hX2))
  refine wp_worldZ (fun WW=>Below w.heap.size w WW∧QVr 49 3 WW w2.heap.size D 1200 1100) ⟨below_trans hb2 (below_alloc _ _),⟨_,_,_,QL.made rfl,⟨X2,nn2,a2,c2,rfl,n2.below (below_alloc _ _),HD2.out,HX2.out,hn2⟩⟩⟩ ?_
  obtain ⟨g6,hg6⟩: ∃g,g=w2.heap.size:=⟨_,rfl⟩
  rw [←hg6]
  clear hb2 n2 HD2 HX2 hn2 hg6
  intro W2 ⟨yb2,z6⟩
  refine wp_region_grow 5 [30,31,32,33,29] [Fact.q 3 D 1200 1100,Fact.q 3 (nrm 720 0) 10 0,Fact.is (.int .i64 k1),Fact.is (.bool false),Fact.is (.bool false)] (by kernel_rfl) (by kernel_rfl) ⟨?o0,?o1,?o2,?o3,?o4,trivial⟩ ?after
  case o0=>(refine oQ rfl ?_;intro ρ w1 R hcon hfn hρ hb hp hR;have e6:ρ (.tmp 6)=.pointer (some ⟨g6,0,none⟩):=hρ.tmp 6 rfl;obtain ⟨n8',s8',k8',⟨⟨j0,j1,-⟩,j2,-⟩,d8'⟩:=z6.below hb;clear hρ hp;unfold OpRun;go_simp;exact hR _ _ (Below.refl _ _) d8')
  case o1=>(refine oQ rfl ?_;intro ρ w1 R hcon hfn hρ hb hp hR;clear hρ hp;unfold OpRun;go_simp;(refine (Q720.out _).mono ?_;rintro e wn ⟨v9,rfl,hv9,hbn⟩;exact ⟨_,rfl,hR _ _ hbn hv9⟩))
  case o2=>(refine oQ rfl ?_;intro ρ w1 R hcon hfn hρ hb hp hR;have f30:=hp 0 30 rfl rfl;have f31:=hp 1 31 rfl rfl;clear hρ hp;unfold OpRun;go_simp;(refine (QC1.out _ _ _ f30 f31).mono ?_;rintro e wn ⟨rfl,hbn⟩;exact ⟨_,rfl,hR _ _ hbn rfl⟩))
  case o3=>(refine oQ rfl ?_;intro ρ w1 R hcon hfn hρ hb hp hR;have e32:ρ (.tmp 32)=_:=hp 2 32 rfl rfl;clear hρ hp;unfold OpRun;go_simp;exact hR _ _ (Below.refl _ _) rfl)
  case o4=>(refine oQ rfl ?_;intro ρ w1 R hcon hfn hρ hb hp hR;have e33:ρ (.tmp 33)=_:=hp 3 33 rfl rfl;clear hρ hp;unfold OpRun;go_simp;exact hR _ _ (Below.refl _ _) rfl)
  case after=>
   intro u wn hb hf
   have e29:u 29=_:=hf 4 29 (by omega) rfl
   clear hf
   simp only [putAll,Act.put,List.setIfInBounds_toArray,List.set_cons_zero,List.set_cons_succ,List.drop_succ_cons,List.drop_zero,List.drop_nil]
   rw [e29]
   replace yb2:=below_trans yb2 hb
   replace z6:=z6.below hb
   clear hb
   go_upto_region 12 with fail
   refine wp_region_grow 5 [39,40,41,42,38] [Fact.q 3 D 1200 1100,Fact.q 3 (nrm (-760) 0) 10 0,Fact.is (.int .i64 k2),Fact.is (.bool true),Fact.is (.bool true)] (by kernel_rfl) (by kernel_rfl) ⟨?o0,?o1,?o2,?o3,?o4,trivial⟩ ?after
   case o0=>(refine oQ rfl ?_;intro ρ w1 R hcon hfn hρ hb hp hR;have e6:ρ (.tmp 6)=.pointer (some ⟨g6,0,none⟩):=hρ.tmp 6 rfl;obtain ⟨n8',s8',k8',⟨⟨j0,j1,-⟩,j2,-⟩,d8'⟩:=z6.below hb;clear hρ hp;unfold OpRun;go_simp;exact hR _ _ (Below.refl _ _) d8')
   case o1=>(refine oQ rfl ?_;intro ρ w1 R hcon hfn hρ hb hp hR;clear hρ hp;unfold OpRun;go_simp;(refine (Q760.out _).mono ?_;rintro e wn ⟨v9,rfl,hv9,hbn⟩;exact ⟨_,rfl,hR _ _ hbn hv9⟩))
   case o2=>(refine oQ rfl ?_;intro ρ w1 R hcon hfn hρ hb hp hR;have f39:=hp 0 39 rfl rfl;have f40:=hp 1 40 rfl rfl;clear hρ hp;unfold OpRun;go_simp;(refine (QC2.out _ _ _ f39 f40).mono ?_;rintro e wn ⟨rfl,hbn⟩;exact ⟨_,rfl,hR _ _ hbn rfl⟩))
   case o3=>(refine oQ rfl ?_;intro ρ w1 R hcon hfn hρ hb hp hR;have e41:ρ (.tmp 41)=_:=hp 2 41 rfl rfl;clear hρ hp;unfold OpRun;go_simp;exact hR _ _ (Below.refl _ _) rfl)
   case o4=>(refine oQ rfl ?_;intro ρ w1 R hcon hfn hρ hb hp hR;have e42:ρ (.tmp 42)=_:=hp 3 42 rfl rfl;clear hρ hp;unfold OpRun;go_simp;exact hR _ _ (Below.refl _ _) rfl)
   case after=>
    intro u wn hb hf
    have e38:u 38=_:=hf 4 38 (by omega) rfl
    clear hf
    simp only [putAll,Act.put,List.setIfInBounds_toArray,List.set_cons_zero,List.set_cons_succ,List.drop_succ_cons,List.drop_zero,List.drop_nil]
    rw [e38]
    replace yb2:=below_trans yb2 hb
    replace z6:=z6.below hb
    clear hb
    go_wp2_with (go_at_call 53;(with_reducible refine (FT.out _).mono ?_);rintro en w3 hr3;have hr4:=FX.out _ _ _ hr3;clear hr3;obtain ⟨rfl,hb3⟩:=hr4)
    go_ret2
    exact ⟨_,_,HS.out,rfl,below_trans yb2 hb3⟩
 have hd2:decide (k2<0)=false:=decide_eq_false h2
 have QA:=hid (fun v w h=>qabs_any v (fv x) 1200 1100 w h (by omega) (by omega))
 have ON:=hid (fun w=>zND 1 (by omega) (by omega) w)
 have QM:=hid (fun a c w (h:Nz 3 w a c (zl 1))=>qmake_any a c 1 (-70) 1 70 w h (by decide) (by omega) (by omega) (by omega))
 have QC:=hid (fun v u w h k=>qcmp_any v u (absD (fv x)) (nrm 1 (-70)) 1200 1100 (1+70) 70 w h k (by omega) (by omega) (by omega) (by omega))
 obtain ⟨ca,hca⟩: ∃c,c=cmpD (absD (fv x)) (nrm 1 (-70)):=⟨_,rfl⟩
 rw [←hca] at QC at1 at2
 by_cases hs:ca<0
 ·obtain ⟨t1,t2⟩:=at1 hs
  have HS:=hid (show XpTold x mode (bsX (nrm 1 0) (sdD (fv x)) mode) (bsC (nrm 1 0) (sdD (fv x)) mode) from TN.out _ _ fun X ch k=>xp_small t1 k)
  have RD:=hid (fun v w h=>roundedS_any v (nrm 1 0) 10 0 (sdD (fv x)) mode w h (nrm_isN _ _) (by omega) (by omega) m0 m1 (by rcases sd_two (fv x) with h|h;exact .inl h;exact .inr (.inr h)))
  have Q1:=hid (fun w=>qintn_any 1 (by omega) w)
  clear hk1 hk2 at1 at2 hI hnz b1 b2 b3 m0 m1 FB FT TN t1 t2 hca
  generalize bsX (nrm 1 0) (sdD (fv x)) mode=RX at *
  generalize bsC (nrm 1 0) (sdD (fv x)) mode=RC at *
  generalize absD (fv x)=AD at *
  generalize nrm 1 0=I1 at *
  by_cases hn:(fv x).1<0
  ·rw [show sdD (fv x)= -1 from if_pos hn] at RD
   rw [decide_eq_true hn] at IM
   clear hn
   generalize fv x=D at *
   go_enter Tryz.func14,Tryz.ntmps14
   go_upto_region 10 with (first
    |(go_at_call 27;(with_reducible refine (IN.out _).mono ?_);rintro en w1 ⟨rfl,rfl⟩)
    |(go_at_call 29;(with_reducible refine (II.out _).mono ?_);rintro en w1 ⟨rfl,rfl⟩)
    |(go_at_call 31;(with_reducible refine (IZ.out _).mono ?_);rintro en w1 ⟨rfl,rfl⟩)
    |(go_at_call 34;(with_reducible refine (QV.out _).mono ?_);rintro en w2 ⟨v2,rfl,⟨X2,nn2,a2,c2,rfl,n2,hD2,hX2,hn2⟩,hb2⟩;have HD2:=hid hD2;have HX2:=hid hX2;clear hD2 hX2))
   refine wp_worldZ (fun WW=>Below w.heap.size w WW∧QVr 49 3 WW w2.heap.size D 1200 1100) ⟨below_trans hb2 (below_alloc _ _),⟨_,_,_,QL.made rfl,⟨X2,nn2,a2,c2,rfl,n2.below (below_alloc _ _),HD2.out,HX2.out,hn2⟩⟩⟩ ?_
   obtain ⟨g6,hg6⟩: ∃g,g=w2.heap.size:=⟨_,rfl⟩
   rw [←hg6]
   clear hb2 n2 HD2 HX2 hn2 hg6
   intro W2 ⟨yb2,z6⟩
   refine wp_region_grow 5 [30,31,32,33,29] [Fact.q 3 D 1200 1100,Fact.q 3 (nrm 720 0) 10 0,Fact.is (.int .i64 k1),Fact.is (.bool false),Fact.is (.bool false)] (by kernel_rfl) (by kernel_rfl) ⟨?o0,?o1,?o2,?o3,?o4,trivial⟩ ?after
   case o0=>(refine oQ rfl ?_;intro ρ w1 R hcon hfn hρ hb hp hR;have e6:ρ (.tmp 6)=.pointer (some ⟨g6,0,none⟩):=hρ.tmp 6 rfl;obtain ⟨n8',s8',k8',⟨⟨j0,j1,-⟩,j2,-⟩,d8'⟩:=z6.below hb;clear hρ hp;unfold OpRun;go_simp;exact hR _ _ (Below.refl _ _) d8')
   case o1=>(refine oQ rfl ?_;intro ρ w1 R hcon hfn hρ hb hp hR;clear hρ hp;unfold OpRun;go_simp;(refine (Q720.out _).mono ?_;rintro e wn ⟨v9,rfl,hv9,hbn⟩;exact ⟨_,rfl,hR _ _ hbn hv9⟩))
   case o2=>(refine oQ rfl ?_;intro ρ w1 R hcon hfn hρ hb hp hR;have f30:=hp 0 30 rfl rfl;have f31:=hp 1 31 rfl rfl;clear hρ hp;unfold OpRun;go_simp;(refine (QC1.out _ _ _ f30 f31).mono ?_;rintro e wn ⟨rfl,hbn⟩;exact ⟨_,rfl,hR _ _ hbn rfl⟩))
   case o3=>(refine oQ rfl ?_;intro ρ w1 R hcon hfn hρ hb hp hR;have e32:ρ (.tmp 32)=_:=hp 2 32 rfl rfl;clear hρ hp;unfold OpRun;go_simp;exact hR _ _ (Below.refl _ _) rfl)
   case o4=>(refine oQ rfl ?_;intro ρ w1 R hcon hfn hρ hb hp hR;have e33:ρ (.tmp 33)=_:=hp 3 33 rfl rfl;clear hρ hp;unfold OpRun;go_simp;exact hR _ _ (Below.refl _ _) rfl)
   case after=>
    intro u wn hb hf
    have e29:u 29=_:=hf 4 29 (by omega) rfl
    clear hf
    simp only [putAll,Act.put,List.setIfInBounds_toArray,List.set_cons_zero,List.set_cons_succ,List.drop_succ_cons,List.drop_zero,List.drop_nil]
    rw [e29]
    replace yb2:=below_trans yb2 hb
    replace z6:=z6.below hb
    clear hb
    go_upto_region 12 with fail
    refine wp_region_grow 5 [39,40,41,42,38] [Fact.q 3 D 1200 1100,Fact.q 3 (nrm (-760) 0) 10 0,Fact.is (.int .i64 k2),Fact.is (.bool false),Fact.is (.bool false)] (by kernel_rfl) (by kernel_rfl) ⟨?o0,?o1,?o2,?o3,?o4,trivial⟩ ?after
    case o0=>(refine oQ rfl ?_;intro ρ w1 R hcon hfn hρ hb hp hR;have e6:ρ (.tmp 6)=.pointer (some ⟨g6,0,none⟩):=hρ.tmp 6 rfl;obtain ⟨n8',s8',k8',⟨⟨j0,j1,-⟩,j2,-⟩,d8'⟩:=z6.below hb;clear hρ hp;unfold OpRun;go_simp;exact hR _ _ (Below.refl _ _) d8')
    case o1=>(refine oQ rfl ?_;intro ρ w1 R hcon hfn hρ hb hp hR;clear hρ hp;unfold OpRun;go_simp;(refine (Q760.out _).mono ?_;rintro e wn ⟨v9,rfl,hv9,hbn⟩;exact ⟨_,rfl,hR _ _ hbn hv9⟩))
    case o2=>(refine oQ rfl ?_;intro ρ w1 R hcon hfn hρ hb hp hR;have f39:=hp 0 39 rfl rfl;have f40:=hp 1 40 rfl rfl;clear hρ hp;unfold OpRun;go_simp;(refine (QC2.out _ _ _ f39 f40).mono ?_;rintro e wn ⟨rfl,hbn⟩;exact ⟨_,rfl,hR _ _ hbn rfl⟩))
    case o3=>(refine oQ rfl ?_;intro ρ w1 R hcon hfn hρ hb hp hR;have e41:ρ (.tmp 41)=_:=hp 2 41 rfl rfl;clear hρ hp;unfold OpRun;go_simp;exact hR _ _ (Below.refl _ _) rfl)
    case o4=>(refine oQ rfl ?_;intro ρ w1 R hcon hfn hρ hb hp hR;have e42:ρ (.tmp 42)=_:=hp 3 42 rfl rfl;clear hρ hp;unfold OpRun;go_simp;exact hR _ _ (Below.refl _ _) rfl)
    case after=>
     intro u wn hb hf
     have e38:u 38=_:=hf 4 38 (by omega) rfl
     clear hf
     simp only [putAll,Act.put,List.setIfInBounds_toArray,List.set_cons_zero,List.set_cons_succ,List.drop_succ_cons,List.drop_zero,List.drop_nil]
     rw [e38]
     replace yb2:=below_trans yb2 hb
     replace z6:=z6.below hb
     clear hb
     go_upto_region 14 with fail
     obtain ⟨n8,s8,k8,q8,d8⟩:=id z6
     obtain ⟨⟨j0,j1,-⟩,j2,-⟩:=id q8
     go_upto_region 15 with (first
      |(go_at_call 36;(with_reducible refine (QA.out _ _ d8).mono ?_);rintro en w3 ⟨v3,rfl,hq3,hb3⟩)
      |(go_at_call 38;(with_reducible refine (ON.out _).mono ?_);rintro en w4 ⟨v4,rfl,⟨a4,c4,rfl,m4⟩,hb4⟩)
      |(go_at_call 37;(with_reducible refine (QM.out _ _ _ m4).mono ?_);rintro en w5 ⟨v5,rfl,hq5,hb5⟩)
      |(go_at_call 35;(with_reducible refine (QC.out _ _ _ ((hq3.below hb4).below hb5) hq5).mono ?_);rintro en w6 ⟨rfl,hb6⟩;have hb36:=below_trans (below_trans (below_trans hb3 hb4) hb5) hb6))
     replace yb2:=below_trans yb2 hb36
     replace z6:=z6.below hb36
     clear q8 d8 j0 j1 j2 hb3 hb4 hb5 hb6 hb36 hq3 hq5 m4
     go_wp2_with (first
      |(go_at_call 30;(with_reducible refine (IM.out _).mono ?_);rintro en w7 ⟨rfl,rfl⟩)
      |(go_at_call 41;(with_reducible refine (Q1.out _).mono ?_);rintro en w8 ⟨v8,rfl,hq8,hb8⟩)
      |(go_at_call 39;(with_reducible refine (RD.out _ _ hq8).mono ?_);rintro en w9 ⟨rfl,hb9⟩))
     go_ret2
     exact ⟨_,_,HS.out,rfl,below_trans (below_trans yb2 hb8) hb9⟩
  ·rw [show sdD (fv x)=1 from if_neg hn] at RD
   rw [decide_eq_false hn] at IM
   clear hn
   generalize fv x=D at *
   go_enter Tryz.func14,Tryz.ntmps14
   go_upto_region 10 with (first
    |(go_at_call 27;(with_reducible refine (IN.out _).mono ?_);rintro en w1 ⟨rfl,rfl⟩)
    |(go_at_call 29;(with_reducible refine (II.out _).mono ?_);rintro en w1 ⟨rfl,rfl⟩)
    |(go_at_call 31;(with_reducible refine (IZ.out _).mono ?_);rintro en w1 ⟨rfl,rfl⟩)
    |(go_at_call 34;(with_reducible refine (QV.out _).mono ?_);rintro en w2 ⟨v2,rfl,⟨X2,nn2,a2,c2,rfl,n2,hD2,hX2,hn2⟩,hb2⟩;have HD2:=hid hD2;have HX2:=hid hX2;clear hD2 hX2))
   refine wp_worldZ (fun WW=>Below w.heap.size w WW∧QVr 49 3 WW w2.heap.size D 1200 1100) ⟨below_trans hb2 (below_alloc _ _),⟨_,_,_,QL.made rfl,⟨X2,nn2,a2,c2,rfl,n2.below (below_alloc _ _),HD2.out,HX2.out,hn2⟩⟩⟩ ?_
   obtain ⟨g6,hg6⟩: ∃g,g=w2.heap.size:=⟨_,rfl⟩
   rw [←hg6]
   clear hb2 n2 HD2 HX2 hn2 hg6
   intro W2 ⟨yb2,z6⟩
   refine wp_region_grow 5 [30,31,32,33,29] [Fact.q 3 D 1200 1100,Fact.q 3 (nrm 720 0) 10 0,Fact.is (.int .i64 k1),Fact.is (.bool false),Fact.is (.bool false)] (by kernel_rfl) (by kernel_rfl) ⟨?o0,?o1,?o2,?o3,?o4,trivial⟩ ?after
   case o0=>(refine oQ rfl ?_;intro ρ w1 R hcon hfn hρ hb hp hR;have e6:ρ (.tmp 6)=.pointer (some ⟨g6,0,none⟩):=hρ.tmp 6 rfl;obtain ⟨n8',s8',k8',⟨⟨j0,j1,-⟩,j2,-⟩,d8'⟩:=z6.below hb;clear hρ hp;unfold OpRun;go_simp;exact hR _ _ (Below.refl _ _) d8')
   case o1=>(refine oQ rfl ?_;intro ρ w1 R hcon hfn hρ hb hp hR;clear hρ hp;unfold OpRun;go_simp;(refine (Q720.out _).mono ?_;rintro e wn ⟨v9,rfl,hv9,hbn⟩;exact ⟨_,rfl,hR _ _ hbn hv9⟩))
   case o2=>(refine oQ rfl ?_;intro ρ w1 R hcon hfn hρ hb hp hR;have f30:=hp 0 30 rfl rfl;have f31:=hp 1 31 rfl rfl;clear hρ hp;unfold OpRun;go_simp;(refine (QC1.out _ _ _ f30 f31).mono ?_;rintro e wn ⟨rfl,hbn⟩;exact ⟨_,rfl,hR _ _ hbn rfl⟩))
   case o3=>(refine oQ rfl ?_;intro ρ w1 R hcon hfn hρ hb hp hR;have e32:ρ (.tmp 32)=_:=hp 2 32 rfl rfl;clear hρ hp;unfold OpRun;go_simp;exact hR _ _ (Below.refl _ _) rfl)
   case o4=>(refine oQ rfl ?_;intro ρ w1 R hcon hfn hρ hb hp hR;have e33:ρ (.tmp 33)=_:=hp 3 33 rfl rfl;clear hρ hp;unfold OpRun;go_simp;exact hR _ _ (Below.refl _ _) rfl)
   case after=>
    intro u wn hb hf
    have e29:u 29=_:=hf 4 29 (by omega) rfl
    clear hf
    simp only [putAll,Act.put,List.setIfInBounds_toArray,List.set_cons_zero,List.set_cons_succ,List.drop_succ_cons,List.drop_zero,List.drop_nil]
    rw [e29]
    replace yb2:=below_trans yb2 hb
    replace z6:=z6.below hb
    clear hb
    go_upto_region 12 with fail
    refine wp_region_grow 5 [39,40,41,42,38] [Fact.q 3 D 1200 1100,Fact.q 3 (nrm (-760) 0) 10 0,Fact.is (.int .i64 k2),Fact.is (.bool false),Fact.is (.bool false)] (by kernel_rfl) (by kernel_rfl) ⟨?o0,?o1,?o2,?o3,?o4,trivial⟩ ?after
    case o0=>(refine oQ rfl ?_;intro ρ w1 R hcon hfn hρ hb hp hR;have e6:ρ (.tmp 6)=.pointer (some ⟨g6,0,none⟩):=hρ.tmp 6 rfl;obtain ⟨n8',s8',k8',⟨⟨j0,j1,-⟩,j2,-⟩,d8'⟩:=z6.below hb;clear hρ hp;unfold OpRun;go_simp;exact hR _ _ (Below.refl _ _) d8')
    case o1=>(refine oQ rfl ?_;intro ρ w1 R hcon hfn hρ hb hp hR;clear hρ hp;unfold OpRun;go_simp;(refine (Q760.out _).mono ?_;rintro e wn ⟨v9,rfl,hv9,hbn⟩;exact ⟨_,rfl,hR _ _ hbn hv9⟩))
    case o2=>(refine oQ rfl ?_;intro ρ w1 R hcon hfn hρ hb hp hR;have f39:=hp 0 39 rfl rfl;have f40:=hp 1 40 rfl rfl;clear hρ hp;unfold OpRun;go_simp;(refine (QC2.out _ _ _ f39 f40).mono ?_;rintro e wn ⟨rfl,hbn⟩;exact ⟨_,rfl,hR _ _ hbn rfl⟩))
    case o3=>(refine oQ rfl ?_;intro ρ w1 R hcon hfn hρ hb hp hR;have e41:ρ (.tmp 41)=_:=hp 2 41 rfl rfl;clear hρ hp;unfold OpRun;go_simp;exact hR _ _ (Below.refl _ _) rfl)
    case o4=>(refine oQ rfl ?_;intro ρ w1 R hcon hfn hρ hb hp hR;have e42:ρ (.tmp 42)=_:=hp 3 42 rfl rfl;clear hρ hp;unfold OpRun;go_simp;exact hR _ _ (Below.refl _ _) rfl)
    case after=>
     intro u wn hb hf
     have e38:u 38=_:=hf 4 38 (by omega) rfl
     clear hf
     simp only [putAll,Act.put,List.setIfInBounds_toArray,List.set_cons_zero,List.set_cons_succ,List.drop_succ_cons,List.drop_zero,List.drop_nil]
     rw [e38]
     replace yb2:=below_trans yb2 hb
     replace z6:=z6.below hb
     clear hb
     go_upto_region 14 with fail
     obtain ⟨n8,s8,k8,q8,d8⟩:=id z6
     obtain ⟨⟨j0,j1,-⟩,j2,-⟩:=id q8
     go_upto_region 15 with (first
      |(go_at_call 36;(with_reducible refine (QA.out _ _ d8).mono ?_);rintro en w3 ⟨v3,rfl,hq3,hb3⟩)
      |(go_at_call 38;(with_reducible refine (ON.out _).mono ?_);rintro en w4 ⟨v4,rfl,⟨a4,c4,rfl,m4⟩,hb4⟩)
      |(go_at_call 37;(with_reducible refine (QM.out _ _ _ m4).mono ?_);rintro en w5 ⟨v5,rfl,hq5,hb5⟩)
      |(go_at_call 35;(with_reducible refine (QC.out _ _ _ ((hq3.below hb4).below hb5) hq5).mono ?_);rintro en w6 ⟨rfl,hb6⟩;have hb36:=below_trans (below_trans (below_trans hb3 hb4) hb5) hb6))
     replace yb2:=below_trans yb2 hb36
     replace z6:=z6.below hb36
     clear q8 d8 j0 j1 j2 hb3 hb4 hb5 hb6 hb36 hq3 hq5 m4
     go_wp2_with (first
      |(go_at_call 30;(with_reducible refine (IM.out _).mono ?_);rintro en w7 ⟨rfl,rfl⟩)
      |(go_at_call 41;(with_reducible refine (Q1.out _).mono ?_);rintro en w8 ⟨v8,rfl,hq8,hb8⟩)
      |(go_at_call 39;(with_reducible refine (RD.out _ _ hq8).mono ?_);rintro en w9 ⟨rfl,hb9⟩))
     go_ret2
     exact ⟨_,_,HS.out,rfl,below_trans (below_trans yb2 hb8) hb9⟩
 ·have HSX:=hid (show ∀Y,ExR (ngD (fv x)) (dyQ (fv x).1.natAbs (fv x).2) false mode Y→XpTold x mode Y true from fun Y hY=>TN.out _ _ fun X ch k=>xp_near hI hnz (by omega) m0 m1 (by rw [←hk1];exact h1) (by rw [←hk2];exact h2) hY k)
  have H:=eb_in hI hnz b1 (by omega) 720 760 (by omega) (by omega) (by rw [show ((720:Nat):Int)=720 from rfl,←hk1];exact h1) (by rw [show -((760:Nat):Int)= -760 from rfl,←hk2];exact h2)
  have BB:=hid (fun t0 g w h a b=>xbBy_any (fv x) 800 t0 mode g w h H a b m0 m1)
  have FQ:=hid (fun v w h=>floorQ_any (fv x) v w h)
  have HZI:=hid (fun v q w hz (hb: -760≤q∧q≤0)=>zIntD v q w hz ⟨by omega,by omega⟩)
  have FL:=hid (show ∀q,FlD (fv x) q→(fv x).1<0→ -760≤q∧q≤0 from fun q hq hn=>flD_bd hq hn 760 (by rw [show -((760:Nat):Int)= -760 from rfl,←hk2];exact h2))
  clear hk1 hk2 at1 at2 hI hnz b1 b2 b3 m0 m1 FB FT TN hca H
  generalize absD (fv x)=AD at *
  by_cases hn:(fv x).1<0
  ·have FL2:=hid (fun q hq=>FL.out q hq hn)
   rw [decide_eq_true hn] at IM
   clear hn FL
   generalize ngD (fv x)=nb at *
   generalize dyQ (fv x).1.natAbs (fv x).2=y at *
   generalize fv x=D at *
   go_enter Tryz.func14,Tryz.ntmps14
   go_upto_region 10 with (first
    |(go_at_call 27;(with_reducible refine (IN.out _).mono ?_);rintro en w1 ⟨rfl,rfl⟩)
    |(go_at_call 29;(with_reducible refine (II.out _).mono ?_);rintro en w1 ⟨rfl,rfl⟩)
    |(go_at_call 31;(with_reducible refine (IZ.out _).mono ?_);rintro en w1 ⟨rfl,rfl⟩)
    |(go_at_call 34;(with_reducible refine (QV.out _).mono ?_);rintro en w2 ⟨v2,rfl,⟨X2,nn2,a2,c2,rfl,n2,hD2,hX2,hn2⟩,hb2⟩;have HD2:=hid hD2;have HX2:=hid hX2;clear hD2 hX2))
   refine wp_worldZ (fun WW=>Below w.heap.size w WW∧QVr 49 3 WW w2.heap.size D 1200 1100) ⟨below_trans hb2 (below_alloc _ _),⟨_,_,_,QL.made rfl,⟨X2,nn2,a2,c2,rfl,n2.below (below_alloc _ _),HD2.out,HX2.out,hn2⟩⟩⟩ ?_
   obtain ⟨g6,hg6⟩: ∃g,g=w2.heap.size:=⟨_,rfl⟩
   rw [←hg6]
   clear hb2 n2 HD2 HX2 hn2 hg6
   intro W2 ⟨yb2,z6⟩
   refine wp_region_grow 5 [30,31,32,33,29] [Fact.q 3 D 1200 1100,Fact.q 3 (nrm 720 0) 10 0,Fact.is (.int .i64 k1),Fact.is (.bool false),Fact.is (.bool false)] (by kernel_rfl) (by kernel_rfl) ⟨?o0,?o1,?o2,?o3,?o4,trivial⟩ ?after
   case o0=>(refine oQ rfl ?_;intro ρ w1 R hcon hfn hρ hb hp hR;have e6:ρ (.tmp 6)=.pointer (some ⟨g6,0,none⟩):=hρ.tmp 6 rfl;obtain ⟨n8',s8',k8',⟨⟨j0,j1,-⟩,j2,-⟩,d8'⟩:=z6.below hb;clear hρ hp;unfold OpRun;go_simp;exact hR _ _ (Below.refl _ _) d8')
   case o1=>(refine oQ rfl ?_;intro ρ w1 R hcon hfn hρ hb hp hR;clear hρ hp;unfold OpRun;go_simp;(refine (Q720.out _).mono ?_;rintro e wn ⟨v9,rfl,hv9,hbn⟩;exact ⟨_,rfl,hR _ _ hbn hv9⟩))
   case o2=>(refine oQ rfl ?_;intro ρ w1 R hcon hfn hρ hb hp hR;have f30:=hp 0 30 rfl rfl;have f31:=hp 1 31 rfl rfl;clear hρ hp;unfold OpRun;go_simp;(refine (QC1.out _ _ _ f30 f31).mono ?_;rintro e wn ⟨rfl,hbn⟩;exact ⟨_,rfl,hR _ _ hbn rfl⟩))
   case o3=>(refine oQ rfl ?_;intro ρ w1 R hcon hfn hρ hb hp hR;have e32:ρ (.tmp 32)=_:=hp 2 32 rfl rfl;clear hρ hp;unfold OpRun;go_simp;exact hR _ _ (Below.refl _ _) rfl)
   case o4=>(refine oQ rfl ?_;intro ρ w1 R hcon hfn hρ hb hp hR;have e33:ρ (.tmp 33)=_:=hp 3 33 rfl rfl;clear hρ hp;unfold OpRun;go_simp;exact hR _ _ (Below.refl _ _) rfl)
   case after=>
    intro u wn hb hf
    have e29:u 29=_:=hf 4 29 (by omega) rfl
    clear hf
    simp only [putAll,Act.put,List.setIfInBounds_toArray,List.set_cons_zero,List.set_cons_succ,List.drop_succ_cons,List.drop_zero,List.drop_nil]
    rw [e29]
    replace yb2:=below_trans yb2 hb
    replace z6:=z6.below hb
    clear hb
    go_upto_region 12 with fail
    refine wp_region_grow 5 [39,40,41,42,38] [Fact.q 3 D 1200 1100,Fact.q 3 (nrm (-760) 0) 10 0,Fact.is (.int .i64 k2),Fact.is (.bool false),Fact.is (.bool false)] (by kernel_rfl) (by kernel_rfl) ⟨?o0,?o1,?o2,?o3,?o4,trivial⟩ ?after
    case o0=>(refine oQ rfl ?_;intro ρ w1 R hcon hfn hρ hb hp hR;have e6:ρ (.tmp 6)=.pointer (some ⟨g6,0,none⟩):=hρ.tmp 6 rfl;obtain ⟨n8',s8',k8',⟨⟨j0,j1,-⟩,j2,-⟩,d8'⟩:=z6.below hb;clear hρ hp;unfold OpRun;go_simp;exact hR _ _ (Below.refl _ _) d8')
    case o1=>(refine oQ rfl ?_;intro ρ w1 R hcon hfn hρ hb hp hR;clear hρ hp;unfold OpRun;go_simp;(refine (Q760.out _).mono ?_;rintro e wn ⟨v9,rfl,hv9,hbn⟩;exact ⟨_,rfl,hR _ _ hbn hv9⟩))
    case o2=>(refine oQ rfl ?_;intro ρ w1 R hcon hfn hρ hb hp hR;have f39:=hp 0 39 rfl rfl;have f40:=hp 1 40 rfl rfl;clear hρ hp;unfold OpRun;go_simp;(refine (QC2.out _ _ _ f39 f40).mono ?_;rintro e wn ⟨rfl,hbn⟩;exact ⟨_,rfl,hR _ _ hbn rfl⟩))
    case o3=>(refine oQ rfl ?_;intro ρ w1 R hcon hfn hρ hb hp hR;have e41:ρ (.tmp 41)=_:=hp 2 41 rfl rfl;clear hρ hp;unfold OpRun;go_simp;exact hR _ _ (Below.refl _ _) rfl)
    case o4=>(refine oQ rfl ?_;intro ρ w1 R hcon hfn hρ hb hp hR;have e42:ρ (.tmp 42)=_:=hp 3 42 rfl rfl;clear hρ hp;unfold OpRun;go_simp;exact hR _ _ (Below.refl _ _) rfl)
    case after=>
     intro u wn hb hf
     have e38:u 38=_:=hf 4 38 (by omega) rfl
     clear hf
     simp only [putAll,Act.put,List.setIfInBounds_toArray,List.set_cons_zero,List.set_cons_succ,List.drop_succ_cons,List.drop_zero,List.drop_nil]
     rw [e38]
     replace yb2:=below_trans yb2 hb
     replace z6:=z6.below hb
     clear hb
     go_upto_region 14 with fail
     obtain ⟨n8,s8,k8,q8,d8⟩:=id z6
     obtain ⟨⟨j0,j1,-⟩,j2,-⟩:=id q8
     go_upto_region 19 with (first
      |(go_at_call 36;(with_reducible refine (QA.out _ _ d8).mono ?_);rintro en w3 ⟨v3,rfl,hq3,hb3⟩)
      |(go_at_call 38;(with_reducible refine (ON.out _).mono ?_);rintro en w4 ⟨v4,rfl,⟨a4,c4,rfl,m4⟩,hb4⟩)
      |(go_at_call 37;(with_reducible refine (QM.out _ _ _ m4).mono ?_);rintro en w5 ⟨v5,rfl,hq5,hb5⟩)
      |(go_at_call 35;(with_reducible refine (QC.out _ _ _ ((hq3.below hb4).below hb5) hq5).mono ?_);rintro en w6 ⟨rfl,hb6⟩;have hb36:=below_trans (below_trans (below_trans hb3 hb4) hb5) hb6))
     replace yb2:=below_trans yb2 hb36
     replace z6:=z6.below hb36
     clear q8 d8 j0 j1 j2 hb3 hb4 hb5 hb6 hb36 hq3 hq5 m4
     obtain ⟨n8,s8,k8,q8,d8⟩:=id z6
     obtain ⟨⟨j0,j1,-⟩,j2,-⟩:=id q8
     go_upto_region 21 with (go_at_call 30;(with_reducible refine (IM.out _).mono ?_);rintro en w7 ⟨rfl,rfl⟩)
     go_upto_region 22 with (first
      |(go_at_call 55;(with_reducible refine (FQ.out _ _ d8).mono ?_);rintro en w8 ⟨q,hq,v8,rfl,hz8,hb8⟩;have hqb:=FL2.out q hq;obtain ⟨ta,t0,e1,wa1,wa2,ht1,ht2⟩:=half40 q hqb)
      |(go_at_call 54;(with_reducible refine (HZI.out _ _ _ hz8 hqb).mono ?_);rintro en w9 ⟨rfl,hb9⟩))
     have yb5:=below_trans (below_trans yb2 hb8) hb9
     have HZ:=hid (show QVr 49 3 w9 g6 D 400000 200000 from by
      obtain ⟨n,s,k,h1,h2⟩:=(z6.below hb8).below hb9
      exact ⟨n,s,k,h1,h2.weak (by omega) (by omega)⟩)
     clear j0 j1 j2 q8 d8 z6 hz8 hb8 hb9 e1 wa1 wa2 hqb hq yb2
     go_wp2_with (go_at_call 42;(with_reducible refine (BB.out _ _ _ HZ.out ht1 ht2).mono ?_);rintro en wA ⟨X,hX,rfl,hbA⟩;have HX:=hid hX;clear hX)
     go_ret2
     exact ⟨X,true,HSX.out X HX.out,rfl,below_trans yb5 hbA⟩
  ·have BB2:=hid (show ∀g w,QVr 49 3 w g (fv x) 400000 200000→Calls Tryz.prog 42 #[.int .i64 40,.int .i64 mode,.func (.func 56) #[] #[.pointer (some ⟨g,0,none⟩)]] w (fun en w'=> ∃X,ExR (ngD (fv x)) (dyQ (fv x).1.natAbs (fv x).2) false mode X∧en=.returned (.tuple #[.int .u64 X,.bool true])∧Below w.heap.size w w') from fun g w h=>BB.out 40 g w h (by omega) (by omega))
   rw [decide_eq_false hn] at IM
   clear hn FL BB HZI FQ
   generalize ngD (fv x)=nb at *
   generalize dyQ (fv x).1.natAbs (fv x).2=y at *
   generalize fv x=D at *
   go_enter Tryz.func14,Tryz.ntmps14
   go_upto_region 10 with (first
    |(go_at_call 27;(with_reducible refine (IN.out _).mono ?_);rintro en w1 ⟨rfl,rfl⟩)
    |(go_at_call 29;(with_reducible refine (II.out _).mono ?_);rintro en w1 ⟨rfl,rfl⟩)
    |(go_at_call 31;(with_reducible refine (IZ.out _).mono ?_);rintro en w1 ⟨rfl,rfl⟩)
    |(go_at_call 34;(with_reducible refine (QV.out _).mono ?_);rintro en w2 ⟨v2,rfl,⟨X2,nn2,a2,c2,rfl,n2,hD2,hX2,hn2⟩,hb2⟩;have HD2:=hid hD2;have HX2:=hid hX2;clear hD2 hX2))
   refine wp_worldZ (fun WW=>Below w.heap.size w WW∧QVr 49 3 WW w2.heap.size D 1200 1100) ⟨below_trans hb2 (below_alloc _ _),⟨_,_,_,QL.made rfl,⟨X2,nn2,a2,c2,rfl,n2.below (below_alloc _ _),HD2.out,HX2.out,hn2⟩⟩⟩ ?_
   obtain ⟨g6,hg6⟩: ∃g,g=w2.heap.size:=⟨_,rfl⟩
   rw [←hg6]
   clear hb2 n2 HD2 HX2 hn2 hg6
   intro W2 ⟨yb2,z6⟩
   refine wp_region_grow 5 [30,31,32,33,29] [Fact.q 3 D 1200 1100,Fact.q 3 (nrm 720 0) 10 0,Fact.is (.int .i64 k1),Fact.is (.bool false),Fact.is (.bool false)] (by kernel_rfl) (by kernel_rfl) ⟨?o0,?o1,?o2,?o3,?o4,trivial⟩ ?after
   case o0=>(refine oQ rfl ?_;intro ρ w1 R hcon hfn hρ hb hp hR;have e6:ρ (.tmp 6)=.pointer (some ⟨g6,0,none⟩):=hρ.tmp 6 rfl;obtain ⟨n8',s8',k8',⟨⟨j0,j1,-⟩,j2,-⟩,d8'⟩:=z6.below hb;clear hρ hp;unfold OpRun;go_simp;exact hR _ _ (Below.refl _ _) d8')
   case o1=>(refine oQ rfl ?_;intro ρ w1 R hcon hfn hρ hb hp hR;clear hρ hp;unfold OpRun;go_simp;(refine (Q720.out _).mono ?_;rintro e wn ⟨v9,rfl,hv9,hbn⟩;exact ⟨_,rfl,hR _ _ hbn hv9⟩))
   case o2=>(refine oQ rfl ?_;intro ρ w1 R hcon hfn hρ hb hp hR;have f30:=hp 0 30 rfl rfl;have f31:=hp 1 31 rfl rfl;clear hρ hp;unfold OpRun;go_simp;(refine (QC1.out _ _ _ f30 f31).mono ?_;rintro e wn ⟨rfl,hbn⟩;exact ⟨_,rfl,hR _ _ hbn rfl⟩))
   case o3=>(refine oQ rfl ?_;intro ρ w1 R hcon hfn hρ hb hp hR;have e32:ρ (.tmp 32)=_:=hp 2 32 rfl rfl;clear hρ hp;unfold OpRun;go_simp;exact hR _ _ (Below.refl _ _) rfl)
   case o4=>(refine oQ rfl ?_;intro ρ w1 R hcon hfn hρ hb hp hR;have e33:ρ (.tmp 33)=_:=hp 3 33 rfl rfl;clear hρ hp;unfold OpRun;go_simp;exact hR _ _ (Below.refl _ _) rfl)
   case after=>
    intro u wn hb hf
    have e29:u 29=_:=hf 4 29 (by omega) rfl
    clear hf
    simp only [putAll,Act.put,List.setIfInBounds_toArray,List.set_cons_zero,List.set_cons_succ,List.drop_succ_cons,List.drop_zero,List.drop_nil]
    rw [e29]
    replace yb2:=below_trans yb2 hb
    replace z6:=z6.below hb
    clear hb
    go_upto_region 12 with fail
    refine wp_region_grow 5 [39,40,41,42,38] [Fact.q 3 D 1200 1100,Fact.q 3 (nrm (-760) 0) 10 0,Fact.is (.int .i64 k2),Fact.is (.bool false),Fact.is (.bool false)] (by kernel_rfl) (by kernel_rfl) ⟨?o0,?o1,?o2,?o3,?o4,trivial⟩ ?after
    case o0=>(refine oQ rfl ?_;intro ρ w1 R hcon hfn hρ hb hp hR;have e6:ρ (.tmp 6)=.pointer (some ⟨g6,0,none⟩):=hρ.tmp 6 rfl;obtain ⟨n8',s8',k8',⟨⟨j0,j1,-⟩,j2,-⟩,d8'⟩:=z6.below hb;clear hρ hp;unfold OpRun;go_simp;exact hR _ _ (Below.refl _ _) d8')
    case o1=>(refine oQ rfl ?_;intro ρ w1 R hcon hfn hρ hb hp hR;clear hρ hp;unfold OpRun;go_simp;(refine (Q760.out _).mono ?_;rintro e wn ⟨v9,rfl,hv9,hbn⟩;exact ⟨_,rfl,hR _ _ hbn hv9⟩))
    case o2=>(refine oQ rfl ?_;intro ρ w1 R hcon hfn hρ hb hp hR;have f39:=hp 0 39 rfl rfl;have f40:=hp 1 40 rfl rfl;clear hρ hp;unfold OpRun;go_simp;(refine (QC2.out _ _ _ f39 f40).mono ?_;rintro e wn ⟨rfl,hbn⟩;exact ⟨_,rfl,hR _ _ hbn rfl⟩))
    case o3=>(refine oQ rfl ?_;intro ρ w1 R hcon hfn hρ hb hp hR;have e41:ρ (.tmp 41)=_:=hp 2 41 rfl rfl;clear hρ hp;unfold OpRun;go_simp;exact hR _ _ (Below.refl _ _) rfl)
    case o4=>(refine oQ rfl ?_;intro ρ w1 R hcon hfn hρ hb hp hR;have e42:ρ (.tmp 42)=_:=hp 3 42 rfl rfl;clear hρ hp;unfold OpRun;go_simp;exact hR _ _ (Below.refl _ _) rfl)
    case after=>
     intro u wn hb hf
     have e38:u 38=_:=hf 4 38 (by omega) rfl
     clear hf
     simp only [putAll,Act.put,List.setIfInBounds_toArray,List.set_cons_zero,List.set_cons_succ,List.drop_succ_cons,List.drop_zero,List.drop_nil]
     rw [e38]
     replace yb2:=below_trans yb2 hb
     replace z6:=z6.below hb
     clear hb
     go_upto_region 14 with fail
     obtain ⟨n8,s8,k8,q8,d8⟩:=id z6
     obtain ⟨⟨j0,j1,-⟩,j2,-⟩:=id q8
     go_upto_region 19 with (first
      |(go_at_call 36;(with_reducible refine (QA.out _ _ d8).mono ?_);rintro en w3 ⟨v3,rfl,hq3,hb3⟩)
      |(go_at_call 38;(with_reducible refine (ON.out _).mono ?_);rintro en w4 ⟨v4,rfl,⟨a4,c4,rfl,m4⟩,hb4⟩)
      |(go_at_call 37;(with_reducible refine (QM.out _ _ _ m4).mono ?_);rintro en w5 ⟨v5,rfl,hq5,hb5⟩)
      |(go_at_call 35;(with_reducible refine (QC.out _ _ _ ((hq3.below hb4).below hb5) hq5).mono ?_);rintro en w6 ⟨rfl,hb6⟩;have hb36:=below_trans (below_trans (below_trans hb3 hb4) hb5) hb6))
     replace yb2:=below_trans yb2 hb36
     replace z6:=z6.below hb36
     clear q8 d8 j0 j1 j2 hb3 hb4 hb5 hb6 hb36 hq3 hq5 m4
     go_upto_region 22 with (go_at_call 30;(with_reducible refine (IM.out _).mono ?_);rintro en w7 ⟨rfl,rfl⟩)
     have HZ:=hid (show QVr 49 3 w6 g6 D 400000 200000 from by
      obtain ⟨n,s,k,h1,h2⟩:=z6
      exact ⟨n,s,k,h1,h2.weak (by omega) (by omega)⟩)
     go_wp2_with (go_at_call 42;(with_reducible refine (BB2.out _ _ HZ.out).mono ?_);rintro en wA ⟨X,hX,rfl,hbA⟩;have HX:=hid hX;clear hX)
     go_ret2
     exact ⟨X,true,HSX.out X HX.out,rfl,below_trans yb2 hbA⟩
end Go.Proofs.YtehhegbkahnhgaaGreatDoor
