/- ExpoExps: what the proof leans on, part 32 (Lj4 Eh7). -/
import Derived.Test.YtehhegbkahnhgaaGreatDoorKExpoExps30
import Derived.Test.YtehhegbkahnhgaaGreatDoorKExpoExps31
set_option linter.unusedVariables false
set_option linter.unusedSimpArgs false
namespace Go.Proofs.YtehhegbkahnhgaaGreatDoor
open Go.RowKit Go.Ulp
set_option maxHeartbeats 4000000
set_option maxRecDepth 100000
theorem rMinus1_any (w:World):Calls Tryz.prog 58 #[] w fun e w'=>e=.returned (.int .u64 13830554455654793216)∧w=w':=by
 go_enter Tryz.func58,Tryz.ntmps58
 go_wp2_with fail
 go_ret
 exact ⟨rfl,rfl⟩
theorem lessBits_any (x:Int) (h0:0≤x) (h1:x<18446744073709551616) (mode:Int) (m0:0≤mode) (m1:mode≤4) (w:World):
 Calls Tryz.prog 16 #[.int .u64 x,.int .i64 mode] w (RetLB w (XmTold x mode)):=by
 have IN:=hid (fun w=>rIsNan_any x h0 h1 w)
 have II:=hid (fun w=>rIsInf_any x h0 h1 w)
 have IZ:=hid (fun w=>rIsZero_any x h0 h1 w)
 have IM:=hid (fun w=>rMinus_any x h0 h1 w)
 have QN:=hid (fun w=>rQuiet_any w)
 have MO:=hid (fun w=>rMinus1_any w)
 have nan5:isNan x=(classOf x==5):=rfl
 have inf4:isInf x=(classOf x==4):=rfl
 have zer1:isZer x=(classOf x==1):=rfl
 rw [nan5] at IN
 rw [inf4] at II
 rw [zer1] at IZ
 clear nan5 inf4 zer1
 by_cases c5:classOf x=5
 ·have HS:=hid (show XmTold x mode 9221120237041090560 false from fun X ch k=>by unfold XmSaid at k;rw [if_pos c5] at k;exact ⟨k.1.symm,k.2.symm⟩)
  rw [c5] at IN II IZ
  clear c5
  go_enter Tryz.func16,Tryz.ntmps16
  go_wp2_with (first
   |(go_at_call 27;(with_reducible refine (IN.out _).mono ?_);rintro en w1 ⟨rfl,rfl⟩)
   |(go_at_call 29;(with_reducible refine (II.out _).mono ?_);rintro en w1 ⟨rfl,rfl⟩)
   |(go_at_call 31;(with_reducible refine (IZ.out _).mono ?_);rintro en w1 ⟨rfl,rfl⟩)
   |(go_at_call 30;(with_reducible refine (IM.out _).mono ?_);rintro en w1 ⟨rfl,rfl⟩)
   |(go_at_call 28;(with_reducible refine (QN.out _).mono ?_);rintro en w1 ⟨rfl,rfl⟩)
   |(go_at_call 58;(with_reducible refine (MO.out _).mono ?_);rintro en w1 ⟨rfl,rfl⟩))
  go_ret2
  exact ⟨_,_,HS.out,rfl,Below.refl _ _⟩
 have z5:(classOf x==5)=false:=beq_eq_false_iff_ne.2 c5
 rw [z5] at IN
 by_cases c1:classOf x=1
 ·have HS:=hid (show XmTold x mode x false from fun X ch k=>by unfold XmSaid at k;rw [if_neg c5,if_pos (.inl c1)] at k;exact ⟨k.1.symm,k.2.symm⟩)
  rw [c1] at II IZ
  clear c5 z5 c1
  go_enter Tryz.func16,Tryz.ntmps16
  go_wp2_with (first
   |(go_at_call 27;(with_reducible refine (IN.out _).mono ?_);rintro en w1 ⟨rfl,rfl⟩)
   |(go_at_call 29;(with_reducible refine (II.out _).mono ?_);rintro en w1 ⟨rfl,rfl⟩)
   |(go_at_call 31;(with_reducible refine (IZ.out _).mono ?_);rintro en w1 ⟨rfl,rfl⟩)
   |(go_at_call 30;(with_reducible refine (IM.out _).mono ?_);rintro en w1 ⟨rfl,rfl⟩)
   |(go_at_call 28;(with_reducible refine (QN.out _).mono ?_);rintro en w1 ⟨rfl,rfl⟩)
   |(go_at_call 58;(with_reducible refine (MO.out _).mono ?_);rintro en w1 ⟨rfl,rfl⟩))
  go_ret2
  exact ⟨_,_,HS.out,rfl,Below.refl _ _⟩
 have z1:(classOf x==1)=false:=beq_eq_false_iff_ne.2 c1
 rw [z1] at IZ
 by_cases c4:classOf x=4
 ·obtain ⟨i1,i2⟩:=inf_two x h0 h1 c4
  rw [c4] at II
  cases hn:negB x
  ·have ci:=i1 hn
   have HS:=hid (show XmTold x mode x false from fun X ch k=>by unfold XmSaid at k;rw [if_neg c5,if_pos (.inr ci)] at k;exact ⟨k.1.symm,k.2.symm⟩)
   rw [hn] at IM
   clear c5 z5 c4 c1 z1 hn i1 i2 ci
   go_enter Tryz.func16,Tryz.ntmps16
   go_wp2_with (first
    |(go_at_call 27;(with_reducible refine (IN.out _).mono ?_);rintro en w1 ⟨rfl,rfl⟩)
    |(go_at_call 29;(with_reducible refine (II.out _).mono ?_);rintro en w1 ⟨rfl,rfl⟩)
    |(go_at_call 31;(with_reducible refine (IZ.out _).mono ?_);rintro en w1 ⟨rfl,rfl⟩)
    |(go_at_call 30;(with_reducible refine (IM.out _).mono ?_);rintro en w1 ⟨rfl,rfl⟩)
    |(go_at_call 28;(with_reducible refine (QN.out _).mono ?_);rintro en w1 ⟨rfl,rfl⟩)
    |(go_at_call 58;(with_reducible refine (MO.out _).mono ?_);rintro en w1 ⟨rfl,rfl⟩))
   go_ret2
   exact ⟨_,_,HS.out,rfl,Below.refl _ _⟩
  ·have ci:=i2 hn
   have HS:=hid (show XmTold x mode 13830554455654793216 false from fun X ch k=>by unfold XmSaid at k;rw [if_neg c5,if_neg (by rintro (h|h);exact c1 h;omega),if_pos ci] at k;exact ⟨k.1.symm,k.2.symm⟩)
   rw [hn] at IM
   clear c5 z5 c4 c1 z1 hn i1 i2 ci
   go_enter Tryz.func16,Tryz.ntmps16
   go_wp2_with (first
    |(go_at_call 27;(with_reducible refine (IN.out _).mono ?_);rintro en w1 ⟨rfl,rfl⟩)
    |(go_at_call 29;(with_reducible refine (II.out _).mono ?_);rintro en w1 ⟨rfl,rfl⟩)
    |(go_at_call 31;(with_reducible refine (IZ.out _).mono ?_);rintro en w1 ⟨rfl,rfl⟩)
    |(go_at_call 30;(with_reducible refine (IM.out _).mono ?_);rintro en w1 ⟨rfl,rfl⟩)
    |(go_at_call 28;(with_reducible refine (QN.out _).mono ?_);rintro en w1 ⟨rfl,rfl⟩)
    |(go_at_call 58;(with_reducible refine (MO.out _).mono ?_);rintro en w1 ⟨rfl,rfl⟩))
   go_ret2
   exact ⟨_,_,HS.out,rfl,Below.refl _ _⟩
 have z4:(classOf x==4)=false:=beq_eq_false_iff_ne.2 c4
 rw [z4] at II
 obtain ⟨ci,cm⟩:=not_inf x h0 h1 c4
 have hnz:=fv_nz x h0 h1 c1
 obtain ⟨at1,at2⟩:=abs_top x h0 h1 hnz
 obtain ⟨-,b1,b2,b3⟩:=fv_bd x h0 h1
 have hI:IsN (fv x):=nrm_isN _ _
 have TN:=hid (show ∀Y c,(∀X ch,XmNum (fv x) mode X ch→Y=X∧c=ch)→XmTold x mode Y c from fun Y c h X ch k=>h X ch (xm_num c5 c1 ci cm k))
 have QV:=hid (fun w=>qval_any x h0 h1 w)
 have Q720:=hid (fun w=>qintn_any 720 (by omega) w)
 have Q120:=hid (fun w=>qintn_any (-120) (by omega) w)
 have QC1:=hid (fun v u w h k=>qcmp_any v u (fv x) (nrm 720 0) 1200 1100 10 0 w h k (by omega) (by omega) (by omega) (by omega))
 have QC2:=hid (fun v u w h k=>qcmp_any v u (fv x) (nrm (-120) 0) 1200 1100 10 0 w h k (by omega) (by omega) (by omega) (by omega))
 have hmf: ∀fn first cap w,(Instr.makeFunc fn first cap).run Tryz.prog w=.ok (.func fn first cap) w:=fun _ _ _ _=>rfl
 clear c5 z5 c4 z4 c1 z1 ci cm IM
 generalize classOf x=kk at *
 obtain ⟨k1,hk1⟩: ∃k,k=cmpD (fv x) (nrm 720 0):=⟨_,rfl⟩
 obtain ⟨k2,hk2⟩: ∃k,k=cmpD (fv x) (nrm (-120) 0):=⟨_,rfl⟩
 rw [←hk1] at QC1
 rw [←hk2] at QC2
 have FB:=hid (fun w=>farBits_any 400 mode m0 m1 w (by omega))
 by_cases h1:0<k1
 ·have hd1:decide (0<k1)=true:=decide_eq_true h1
  have HS:=hid (show XmTold x mode (bigX mode) true from TN.out _ _ fun X ch k=>xm_big hI (by omega) (by rw [←hk1];exact h1) k)
  have FX:=hid (fun en w w' h=>far_big (w:=w) (w':=w') (e:=en) m0 m1 h)
  clear hk1 hk2 at1 at2 hI hnz b1 b2 b3 m0 m1 QC2 Q120 TN
  generalize fv x=D at *
  generalize bigX mode=RX at *
  go_enter Tryz.func16,Tryz.ntmps16
  go_upto_region 10 with (first
   |(go_at_call 27;(with_reducible refine (IN.out _).mono ?_);rintro en w1 ⟨rfl,rfl⟩)
   |(go_at_call 29;(with_reducible refine (II.out _).mono ?_);rintro en w1 ⟨rfl,rfl⟩)
   |(go_at_call 31;(with_reducible refine (IZ.out _).mono ?_);rintro en w1 ⟨rfl,rfl⟩)
   |(go_at_call 34;(with_reducible refine (QV.out _).mono ?_);rintro en w2 ⟨v2,rfl,⟨X2,nn2,a2,c2,rfl,n2,hD2,hX2,hn2⟩,hb2⟩;have HD2:=hid hD2;have HX2:=hid hX2;clear hD2 hX2))
  refine wp_worldZ (fun WW=>Below w.heap.size w WW∧QVr 49 3 WW w2.heap.size D 1200 1100) ⟨below_trans hb2 (below_alloc _ _),⟨_,_,_,QL.made rfl,⟨X2,nn2,a2,c2,rfl,n2.below (below_alloc _ _),HD2.out,HX2.out,hn2⟩⟩⟩ ?_
  obtain ⟨g6,hg6⟩: ∃g,g=w2.heap.size:=⟨_,rfl⟩
  rw [←hg6]
  clear hb2 n2 HD2 HX2 hn2 hg6
  intro W2 ⟨yb2,z6⟩
  refine wp_region_grow 5 [30,31,32,33,29] [Fact.q 3 D 1200 1100,Fact.q 3 (nrm 720 0) 10 0,Fact.is (.int .i64 k1),Fact.is (.bool true),Fact.is (.bool true)] (by kernel_rfl) (by kernel_rfl) ⟨?o0,?o1,?o2,?o3,?o4,trivial⟩ ?after
  case o0=>(refine oQ rfl ?_;intro ρ w1 R hcon hfn hρ hb hp hR;have e6:ρ (.tmp 6)=.pointer (some ⟨g6,0,none⟩):=hρ.tmp 6 rfl;obtain ⟨n8',s8',k8',⟨⟨j0,j1,-⟩,j2,-⟩,d8'⟩:=z6.below hb;clear hρ hp;unfold OpRun;go_simp;exact hR _ _ (Below.refl _ _) d8')
  case o1=>(refine oQ rfl ?_;intro ρ w1 R hcon hfn hρ hb hp hR;clear hρ hp;unfold OpRun;go_simp;(refine (Q720.out _).mono ?_;rintro e wn ⟨v9,rfl,hv9,hbn⟩;exact ⟨_,rfl,hR _ _ hbn hv9⟩))
  case o2=>(refine oQ rfl ?_;intro ρ w1 R hcon hfn hρ hb hp hR;have f30:=hp 0 30 rfl rfl;have f31:=hp 1 31 rfl rfl;clear hρ hp;unfold OpRun;go_simp;(refine (QC1.out _ _ _ f30 f31).mono ?_;rintro e wn ⟨rfl,hbn⟩;exact ⟨_,rfl,hR _ _ hbn rfl⟩))
  case o3=>(refine oQ rfl ?_;intro ρ w1 R hcon hfn hρ hb hp hR;have e32:ρ (.tmp 32)=_:=hp 2 32 rfl rfl;clear hρ hp;unfold OpRun;go_simp;exact hR _ _ (Below.refl _ _) rfl)
  case o4=>(refine oQ rfl ?_;intro ρ w1 R hcon hfn hρ hb hp hR;have e33:ρ (.tmp 33)=_:=hp 3 33 rfl rfl;clear hρ hp;unfold OpRun;go_simp;exact hR _ _ (Below.refl _ _) rfl)
  case after=>
   intro u wn hb hf
   have e29:u 29=_:=hf 4 29 (by omega) rfl
   clear hf
   simp only [putAll,Act.put,List.setIfInBounds_toArray,List.set_cons_zero,List.set_cons_succ,List.drop_succ_cons,List.drop_zero,List.drop_nil]
   rw [e29]
   replace yb2:=below_trans yb2 hb
   replace z6:=z6.below hb
   clear hb
   go_wp2_with (go_at_call 53;(with_reducible refine (FB.out _).mono ?_);rintro en w3 hr3;have hr4:=FX.out _ _ _ hr3;clear hr3;obtain ⟨rfl,hb3⟩:=hr4)
   go_ret2
   exact ⟨_,_,HS.out,rfl,below_trans yb2 hb3⟩
 have hd1:decide (0<k1)=false:=decide_eq_false h1
 by_cases h2:k2<0
 ·have hd2:decide (k2<0)=true:=decide_eq_true h2
  have HS:=hid (show XmTold x mode (bsX (nrm (-1) 0) 1 mode) (bsC (nrm (-1) 0) 1 mode) from TN.out _ _ fun X ch k=>xm_one hI (by omega) (by rw [←hk2];exact h2) k)
  have RD:=hid (fun v w h=>roundedS_any v (nrm (-1) 0) 10 0 1 mode w h (nrm_isN _ _) (by omega) (by omega) m0 m1 (.inr (.inr rfl)))
  have Q1:=hid (fun w=>qintn_any (-1) (by omega) w)
  clear hk1 hk2 at1 at2 hI hnz b1 b2 b3 m0 m1 FB TN
  generalize fv x=D at *
  generalize bsX (nrm (-1) 0) 1 mode=RX at *
  generalize bsC (nrm (-1) 0) 1 mode=RC at *
  generalize nrm (-1) 0=I1 at *
  go_enter Tryz.func16,Tryz.ntmps16
  go_upto_region 10 with (first
   |(go_at_call 27;(with_reducible refine (IN.out _).mono ?_);rintro en w1 ⟨rfl,rfl⟩)
   |(go_at_call 29;(with_reducible refine (II.out _).mono ?_);rintro en w1 ⟨rfl,rfl⟩)
   |(go_at_call 31;(with_reducible refine (IZ.out _).mono ?_);rintro en w1 ⟨rfl,rfl⟩)
   |(go_at_call 34;(with_reducible refine (QV.out _).mono ?_);rintro en w2 ⟨v2,rfl,⟨X2,nn2,a2,c2,rfl,n2,hD2,hX2,hn2⟩,hb2⟩;have HD2:=hid hD2;have HX2:=hid hX2;clear hD2 hX2))
  refine wp_worldZ (fun WW=>Below w.heap.size w WW∧QVr 49 3 WW w2.heap.size D 1200 1100) ⟨below_trans hb2 (below_alloc _ _),⟨_,_,_,QL.made rfl,⟨X2,nn2,a2,c2,rfl,n2.below (below_alloc _ _),HD2.out,HX2.out,hn2⟩⟩⟩ ?_
  obtain ⟨g6,hg6⟩: ∃g,g=w2.heap.size:=⟨_,rfl⟩
  rw [←hg6]
  clear hb2 n2 HD2 HX2 hn2 hg6
  intro W2 ⟨yb2,z6⟩
  refine wp_region_grow 5 [30,31,32,33,29] [Fact.q 3 D 1200 1100,Fact.q 3 (nrm 720 0) 10 0,Fact.is (.int .i64 k1),Fact.is (.bool false),Fact.is (.bool false)] (by kernel_rfl) (by kernel_rfl) ⟨?o0,?o1,?o2,?o3,?o4,trivial⟩ ?after
  case o0=>(refine oQ rfl ?_;intro ρ w1 R hcon hfn hρ hb hp hR;have e6:ρ (.tmp 6)=.pointer (some ⟨g6,0,none⟩):=hρ.tmp 6 rfl;obtain ⟨n8',s8',k8',⟨⟨j0,j1,-⟩,j2,-⟩,d8'⟩:=z6.below hb;clear hρ hp;unfold OpRun;go_simp;exact hR _ _ (Below.refl _ _) d8')
  case o1=>(refine oQ rfl ?_;intro ρ w1 R hcon hfn hρ hb hp hR;clear hρ hp;unfold OpRun;go_simp;(refine (Q720.out _).mono ?_;rintro e wn ⟨v9,rfl,hv9,hbn⟩;exact ⟨_,rfl,hR _ _ hbn hv9⟩))
  case o2=>(refine oQ rfl ?_;intro ρ w1 R hcon hfn hρ hb hp hR;have f30:=hp 0 30 rfl rfl;have f31:=hp 1 31 rfl rfl;clear hρ hp;unfold OpRun;go_simp;(refine (QC1.out _ _ _ f30 f31).mono ?_;rintro e wn ⟨rfl,hbn⟩;exact ⟨_,rfl,hR _ _ hbn rfl⟩))
  case o3=>(refine oQ rfl ?_;intro ρ w1 R hcon hfn hρ hb hp hR;have e32:ρ (.tmp 32)=_:=hp 2 32 rfl rfl;clear hρ hp;unfold OpRun;go_simp;exact hR _ _ (Below.refl _ _) rfl)
  case o4=>(refine oQ rfl ?_;intro ρ w1 R hcon hfn hρ hb hp hR;have e33:ρ (.tmp 33)=_:=hp 3 33 rfl rfl;clear hρ hp;unfold OpRun;go_simp;exact hR _ _ (Below.refl _ _) rfl)
  case after=>
   intro u wn hb hf
   have e29:u 29=_:=hf 4 29 (by omega) rfl
   clear hf
   simp only [putAll,Act.put,List.setIfInBounds_toArray,List.set_cons_zero,List.set_cons_succ,List.drop_succ_cons,List.drop_zero,List.drop_nil]
   rw [e29]
   replace yb2:=below_trans yb2 hb
   replace z6:=z6.below hb
   clear hb
   go_upto_region 12 with fail
   refine wp_region_grow 5 [39,40,41,42,38] [Fact.q 3 D 1200 1100,Fact.q 3 (nrm (-120) 0) 10 0,Fact.is (.int .i64 k2),Fact.is (.bool true),Fact.is (.bool true)] (by kernel_rfl) (by kernel_rfl) ⟨?o0,?o1,?o2,?o3,?o4,trivial⟩ ?after
   case o0=>(refine oQ rfl ?_;intro ρ w1 R hcon hfn hρ hb hp hR;have e6:ρ (.tmp 6)=.pointer (some ⟨g6,0,none⟩):=hρ.tmp 6 rfl;obtain ⟨n8',s8',k8',⟨⟨j0,j1,-⟩,j2,-⟩,d8'⟩:=z6.below hb;clear hρ hp;unfold OpRun;go_simp;exact hR _ _ (Below.refl _ _) d8')
   case o1=>(refine oQ rfl ?_;intro ρ w1 R hcon hfn hρ hb hp hR;clear hρ hp;unfold OpRun;go_simp;(refine (Q120.out _).mono ?_;rintro e wn ⟨v9,rfl,hv9,hbn⟩;exact ⟨_,rfl,hR _ _ hbn hv9⟩))
   case o2=>(refine oQ rfl ?_;intro ρ w1 R hcon hfn hρ hb hp hR;have f39:=hp 0 39 rfl rfl;have f40:=hp 1 40 rfl rfl;clear hρ hp;unfold OpRun;go_simp;(refine (QC2.out _ _ _ f39 f40).mono ?_;rintro e wn ⟨rfl,hbn⟩;exact ⟨_,rfl,hR _ _ hbn rfl⟩))
   case o3=>(refine oQ rfl ?_;intro ρ w1 R hcon hfn hρ hb hp hR;have e41:ρ (.tmp 41)=_:=hp 2 41 rfl rfl;clear hρ hp;unfold OpRun;go_simp;exact hR _ _ (Below.refl _ _) rfl)
   case o4=>(refine oQ rfl ?_;intro ρ w1 R hcon hfn hρ hb hp hR;have e42:ρ (.tmp 42)=_:=hp 3 42 rfl rfl;clear hρ hp;unfold OpRun;go_simp;exact hR _ _ (Below.refl _ _) rfl)
   case after=>
    intro u wn hb hf
    have e38:u 38=_:=hf 4 38 (by omega) rfl
    clear hf
    simp only [putAll,Act.put,List.setIfInBounds_toArray,List.set_cons_zero,List.set_cons_succ,List.drop_succ_cons,List.drop_zero,List.drop_nil]
    rw [e38]
    replace yb2:=below_trans yb2 hb
    replace z6:=z6.below hb
    clear hb
    go_wp2_with (first
     |(go_at_call 41;(with_reducible refine (Q1.out _).mono ?_);rintro en w8 ⟨v8,rfl,hq8,hb8⟩)
     |(go_at_call 39;(with_reducible refine (RD.out _ _ hq8).mono ?_);rintro en w9 ⟨rfl,hb9⟩))
    go_ret2
    exact ⟨_,_,HS.out,rfl,below_trans (below_trans yb2 hb8) hb9⟩
 have hd2:decide (k2<0)=false:=decide_eq_false h2
 have QA:=hid (fun v w h=>qabs_any v (fv x) 1200 1100 w h (by omega) (by omega))
 have ON:=hid (fun w=>zND 1 (by omega) (by omega) w)
 have QM:=hid (fun a c w (h:Nz 3 w a c (zl 1))=>qmake_any a c 1 (-70) 1 70 w h (by decide) (by omega) (by omega) (by omega))
 have QC:=hid (fun v u w h k=>qcmp_any v u (absD (fv x)) (nrm 1 (-70)) 1200 1100 (1+70) 70 w h k (by omega) (by omega) (by omega) (by omega))
 obtain ⟨ca,hca⟩: ∃c,c=cmpD (absD (fv x)) (nrm 1 (-70)):=⟨_,rfl⟩
 rw [←hca] at QC at1 at2
 by_cases hs:ca<0
 ·obtain ⟨t1,t2⟩:=at1 hs
  have HS:=hid (show XmTold x mode (bsX (fv x) 1 mode) (bsC (fv x) 1 mode) from TN.out _ _ fun X ch k=>xm_small t1 k)
  have RD:=hid (fun v w h=>roundedS_any v (fv x) 1200 1100 1 mode w h hI (by omega) (by omega) m0 m1 (.inr (.inr rfl)))
  clear hk1 hk2 at1 at2 hI hnz b1 b2 b3 m0 m1 FB TN t1 t2 hca
  generalize bsX (fv x) 1 mode=RX at *
  generalize bsC (fv x) 1 mode=RC at *
  generalize absD (fv x)=AD at *
  generalize fv x=D at *
  go_enter Tryz.func16,Tryz.ntmps16
  go_upto_region 10 with (first
   |(go_at_call 27;(with_reducible refine (IN.out _).mono ?_);rintro en w1 ⟨rfl,rfl⟩)
   |(go_at_call 29;(with_reducible refine (II.out _).mono ?_);rintro en w1 ⟨rfl,rfl⟩)
   |(go_at_call 31;(with_reducible refine (IZ.out _).mono ?_);rintro en w1 ⟨rfl,rfl⟩)
   |(go_at_call 34;(with_reducible refine (QV.out _).mono ?_);rintro en w2 ⟨v2,rfl,⟨X2,nn2,a2,c2,rfl,n2,hD2,hX2,hn2⟩,hb2⟩;have HD2:=hid hD2;have HX2:=hid hX2;clear hD2 hX2))
  refine wp_worldZ (fun WW=>Below w.heap.size w WW∧QVr 49 3 WW w2.heap.size D 1200 1100) ⟨below_trans hb2 (below_alloc _ _),⟨_,_,_,QL.made rfl,⟨X2,nn2,a2,c2,rfl,n2.below (below_alloc _ _),HD2.out,HX2.out,hn2⟩⟩⟩ ?_
  obtain ⟨g6,hg6⟩: ∃g,g=w2.heap.size:=⟨_,rfl⟩
  rw [←hg6]
  clear hb2 n2 HD2 HX2 hn2 hg6
  intro W2 ⟨yb2,z6⟩
  refine wp_region_grow 5 [30,31,32,33,29] [Fact.q 3 D 1200 1100,Fact.q 3 (nrm 720 0) 10 0,Fact.is (.int .i64 k1),Fact.is (.bool false),Fact.is (.bool false)] (by kernel_rfl) (by kernel_rfl) ⟨?o0,?o1,?o2,?o3,?o4,trivial⟩ ?after
  case o0=>(refine oQ rfl ?_;intro ρ w1 R hcon hfn hρ hb hp hR;have e6:ρ (.tmp 6)=.pointer (some ⟨g6,0,none⟩):=hρ.tmp 6 rfl;obtain ⟨n8',s8',k8',⟨⟨j0,j1,-⟩,j2,-⟩,d8'⟩:=z6.below hb;clear hρ hp;unfold OpRun;go_simp;exact hR _ _ (Below.refl _ _) d8')
  case o1=>(refine oQ rfl ?_;intro ρ w1 R hcon hfn hρ hb hp hR;clear hρ hp;unfold OpRun;go_simp;(refine (Q720.out _).mono ?_;rintro e wn ⟨v9,rfl,hv9,hbn⟩;exact ⟨_,rfl,hR _ _ hbn hv9⟩))
  case o2=>(refine oQ rfl ?_;intro ρ w1 R hcon hfn hρ hb hp hR;have f30:=hp 0 30 rfl rfl;have f31:=hp 1 31 rfl rfl;clear hρ hp;unfold OpRun;go_simp;(refine (QC1.out _ _ _ f30 f31).mono ?_;rintro e wn ⟨rfl,hbn⟩;exact ⟨_,rfl,hR _ _ hbn rfl⟩))
  case o3=>(refine oQ rfl ?_;intro ρ w1 R hcon hfn hρ hb hp hR;have e32:ρ (.tmp 32)=_:=hp 2 32 rfl rfl;clear hρ hp;unfold OpRun;go_simp;exact hR _ _ (Below.refl _ _) rfl)
  case o4=>(refine oQ rfl ?_;intro ρ w1 R hcon hfn hρ hb hp hR;have e33:ρ (.tmp 33)=_:=hp 3 33 rfl rfl;clear hρ hp;unfold OpRun;go_simp;exact hR _ _ (Below.refl _ _) rfl)
  case after=>
   intro u wn hb hf
   have e29:u 29=_:=hf 4 29 (by omega) rfl
   clear hf
   simp only [putAll,Act.put,List.setIfInBounds_toArray,List.set_cons_zero,List.set_cons_succ,List.drop_succ_cons,List.drop_zero,List.drop_nil]
   rw [e29]
   replace yb2:=below_trans yb2 hb
   replace z6:=z6.below hb
   clear hb
   go_upto_region 12 with fail
   refine wp_region_grow 5 [39,40,41,42,38] [Fact.q 3 D 1200 1100,Fact.q 3 (nrm (-120) 0) 10 0,Fact.is (.int .i64 k2),Fact.is (.bool false),Fact.is (.bool false)] (by kernel_rfl) (by kernel_rfl) ⟨?o0,?o1,?o2,?o3,?o4,trivial⟩ ?after
   case o0=>(refine oQ rfl ?_;intro ρ w1 R hcon hfn hρ hb hp hR;have e6:ρ (.tmp 6)=.pointer (some ⟨g6,0,none⟩):=hρ.tmp 6 rfl;obtain ⟨n8',s8',k8',⟨⟨j0,j1,-⟩,j2,-⟩,d8'⟩:=z6.below hb;clear hρ hp;unfold OpRun;go_simp;exact hR _ _ (Below.refl _ _) d8')
   case o1=>(refine oQ rfl ?_;intro ρ w1 R hcon hfn hρ hb hp hR;clear hρ hp;unfold OpRun;go_simp;(refine (Q120.out _).mono ?_;rintro e wn ⟨v9,rfl,hv9,hbn⟩;exact ⟨_,rfl,hR _ _ hbn hv9⟩))
   case o2=>(refine oQ rfl ?_;intro ρ w1 R hcon hfn hρ hb hp hR;have f39:=hp 0 39 rfl rfl;have f40:=hp 1 40 rfl rfl;clear hρ hp;unfold OpRun;go_simp;(refine (QC2.out _ _ _ f39 f40).mono ?_;rintro e wn ⟨rfl,hbn⟩;exact ⟨_,rfl,hR _ _ hbn rfl⟩))
   case o3=>(refine oQ rfl ?_;intro ρ w1 R hcon hfn hρ hb hp hR;have e41:ρ (.tmp 41)=_:=hp 2 41 rfl rfl;clear hρ hp;unfold OpRun;go_simp;exact hR _ _ (Below.refl _ _) rfl)
   case o4=>(refine oQ rfl ?_;intro ρ w1 R hcon hfn hρ hb hp hR;have e42:ρ (.tmp 42)=_:=hp 3 42 rfl rfl;clear hρ hp;unfold OpRun;go_simp;exact hR _ _ (Below.refl _ _) rfl)
   case after=>
    intro u wn hb hf
    have e38:u 38=_:=hf 4 38 (by omega) rfl
    clear hf
    simp only [putAll,Act.put,List.setIfInBounds_toArray,List.set_cons_zero,List.set_cons_succ,List.drop_succ_cons,List.drop_zero,List.drop_nil]
    rw [e38]
    replace yb2:=below_trans yb2 hb
    replace z6:=z6.below hb
    clear hb
    go_upto_region 14 with fail
    obtain ⟨n8,s8,k8,q8,d8⟩:=id z6
    obtain ⟨⟨j0,j1,-⟩,j2,-⟩:=id q8
    go_upto_region 15 with (first
     |(go_at_call 36;(with_reducible refine (QA.out _ _ d8).mono ?_);rintro en w3 ⟨v3,rfl,hq3,hb3⟩)
     |(go_at_call 38;(with_reducible refine (ON.out _).mono ?_);rintro en w4 ⟨v4,rfl,⟨a4,c4,rfl,m4⟩,hb4⟩)
     |(go_at_call 37;(with_reducible refine (QM.out _ _ _ m4).mono ?_);rintro en w5 ⟨v5,rfl,hq5,hb5⟩)
     |(go_at_call 35;(with_reducible refine (QC.out _ _ _ ((hq3.below hb4).below hb5) hq5).mono ?_);rintro en w6 ⟨rfl,hb6⟩;have hb36:=below_trans (below_trans (below_trans hb3 hb4) hb5) hb6))
    replace yb2:=below_trans yb2 hb36
    replace z6:=z6.below hb36
    clear q8 d8 j0 j1 j2 hb3 hb4 hb5 hb6 hb36 hq3 hq5 m4
    obtain ⟨n8,s8,k8,q8,d8⟩:=id z6
    obtain ⟨⟨j0,j1,-⟩,j2,-⟩:=id q8
    go_wp2_with (go_at_call 39;(with_reducible refine (RD.out _ _ d8).mono ?_);rintro en w9 ⟨rfl,hb9⟩)
    go_ret2
    exact ⟨_,_,HS.out,rfl,below_trans yb2 hb9⟩
 ·have HSX:=hid (show ∀Y,ExR (ngD (fv x)) (dyQ (fv x).1.natAbs (fv x).2) true mode Y→XmTold x mode Y true from fun Y hY=>TN.out _ _ fun X ch k=>xm_near hI hnz (by omega) b1 m0 m1 (by rw [←hk1];exact h1) (by rw [←hk2];exact h2) hY k)
  have H:=eb_in hI hnz b1 (by omega) 720 120 (by omega) (by omega) (by rw [show ((720:Nat):Int)=720 from rfl,←hk1];exact h1) (by rw [show -((120:Nat):Int)= -120 from rfl,←hk2];exact h2)
  have BB2:=hid (show ∀g w,QVr 49 3 w g (fv x) 400000 200000→Calls Tryz.prog 42 #[.int .i64 80,.int .i64 mode,.func (.func 59) #[] #[.pointer (some ⟨g,0,none⟩)]] w (fun en w'=> ∃X,ExR (ngD (fv x)) (dyQ (fv x).1.natAbs (fv x).2) true mode X∧en=.returned (.tuple #[.int .u64 X,.bool true])∧Below w.heap.size w w') from fun g w h=>lsBy_any (fv x) 800 80 mode g w h H (by omega) (by omega) m0 m1)
  clear hk1 hk2 at1 at2 hI hnz b1 b2 b3 m0 m1 FB TN hca H
  generalize absD (fv x)=AD at *
  generalize ngD (fv x)=nb at *
  generalize dyQ (fv x).1.natAbs (fv x).2=y at *
  generalize fv x=D at *
  go_enter Tryz.func16,Tryz.ntmps16
  go_upto_region 10 with (first
   |(go_at_call 27;(with_reducible refine (IN.out _).mono ?_);rintro en w1 ⟨rfl,rfl⟩)
   |(go_at_call 29;(with_reducible refine (II.out _).mono ?_);rintro en w1 ⟨rfl,rfl⟩)
   |(go_at_call 31;(with_reducible refine (IZ.out _).mono ?_);rintro en w1 ⟨rfl,rfl⟩)
   |(go_at_call 34;(with_reducible refine (QV.out _).mono ?_);rintro en w2 ⟨v2,rfl,⟨X2,nn2,a2,c2,rfl,n2,hD2,hX2,hn2⟩,hb2⟩;have HD2:=hid hD2;have HX2:=hid hX2;clear hD2 hX2))
  refine wp_worldZ (fun WW=>Below w.heap.size w WW∧QVr 49 3 WW w2.heap.size D 1200 1100) ⟨below_trans hb2 (below_alloc _ _),⟨_,_,_,QL.made rfl,⟨X2,nn2,a2,c2,rfl,n2.below (below_alloc _ _),HD2.out,HX2.out,hn2⟩⟩⟩ ?_
  obtain ⟨g6,hg6⟩: ∃g,g=w2.heap.size:=⟨_,rfl⟩
  rw [←hg6]
  clear hb2 n2 HD2 HX2 hn2 hg6
  intro W2 ⟨yb2,z6⟩
  refine wp_region_grow 5 [30,31,32,33,29] [Fact.q 3 D 1200 1100,Fact.q 3 (nrm 720 0) 10 0,Fact.is (.int .i64 k1),Fact.is (.bool false),Fact.is (.bool false)] (by kernel_rfl) (by kernel_rfl) ⟨?o0,?o1,?o2,?o3,?o4,trivial⟩ ?after
  case o0=>(refine oQ rfl ?_;intro ρ w1 R hcon hfn hρ hb hp hR;have e6:ρ (.tmp 6)=.pointer (some ⟨g6,0,none⟩):=hρ.tmp 6 rfl;obtain ⟨n8',s8',k8',⟨⟨j0,j1,-⟩,j2,-⟩,d8'⟩:=z6.below hb;clear hρ hp;unfold OpRun;go_simp;exact hR _ _ (Below.refl _ _) d8')
  case o1=>(refine oQ rfl ?_;intro ρ w1 R hcon hfn hρ hb hp hR;clear hρ hp;unfold OpRun;go_simp;(refine (Q720.out _).mono ?_;rintro e wn ⟨v9,rfl,hv9,hbn⟩;exact ⟨_,rfl,hR _ _ hbn hv9⟩))
  case o2=>(refine oQ rfl ?_;intro ρ w1 R hcon hfn hρ hb hp hR;have f30:=hp 0 30 rfl rfl;have f31:=hp 1 31 rfl rfl;clear hρ hp;unfold OpRun;go_simp;(refine (QC1.out _ _ _ f30 f31).mono ?_;rintro e wn ⟨rfl,hbn⟩;exact ⟨_,rfl,hR _ _ hbn rfl⟩))
  case o3=>(refine oQ rfl ?_;intro ρ w1 R hcon hfn hρ hb hp hR;have e32:ρ (.tmp 32)=_:=hp 2 32 rfl rfl;clear hρ hp;unfold OpRun;go_simp;exact hR _ _ (Below.refl _ _) rfl)
  case o4=>(refine oQ rfl ?_;intro ρ w1 R hcon hfn hρ hb hp hR;have e33:ρ (.tmp 33)=_:=hp 3 33 rfl rfl;clear hρ hp;unfold OpRun;go_simp;exact hR _ _ (Below.refl _ _) rfl)
  case after=>
   intro u wn hb hf
   have e29:u 29=_:=hf 4 29 (by omega) rfl
   clear hf
   simp only [putAll,Act.put,List.setIfInBounds_toArray,List.set_cons_zero,List.set_cons_succ,List.drop_succ_cons,List.drop_zero,List.drop_nil]
   rw [e29]
   replace yb2:=below_trans yb2 hb
   replace z6:=z6.below hb
   clear hb
   go_upto_region 12 with fail
   refine wp_region_grow 5 [39,40,41,42,38] [Fact.q 3 D 1200 1100,Fact.q 3 (nrm (-120) 0) 10 0,Fact.is (.int .i64 k2),Fact.is (.bool false),Fact.is (.bool false)] (by kernel_rfl) (by kernel_rfl) ⟨?o0,?o1,?o2,?o3,?o4,trivial⟩ ?after
   case o0=>(refine oQ rfl ?_;intro ρ w1 R hcon hfn hρ hb hp hR;have e6:ρ (.tmp 6)=.pointer (some ⟨g6,0,none⟩):=hρ.tmp 6 rfl;obtain ⟨n8',s8',k8',⟨⟨j0,j1,-⟩,j2,-⟩,d8'⟩:=z6.below hb;clear hρ hp;unfold OpRun;go_simp;exact hR _ _ (Below.refl _ _) d8')
   case o1=>(refine oQ rfl ?_;intro ρ w1 R hcon hfn hρ hb hp hR;clear hρ hp;unfold OpRun;go_simp;(refine (Q120.out _).mono ?_;rintro e wn ⟨v9,rfl,hv9,hbn⟩;exact ⟨_,rfl,hR _ _ hbn hv9⟩))
   case o2=>(refine oQ rfl ?_;intro ρ w1 R hcon hfn hρ hb hp hR;have f39:=hp 0 39 rfl rfl;have f40:=hp 1 40 rfl rfl;clear hρ hp;unfold OpRun;go_simp;(refine (QC2.out _ _ _ f39 f40).mono ?_;rintro e wn ⟨rfl,hbn⟩;exact ⟨_,rfl,hR _ _ hbn rfl⟩))
   case o3=>(refine oQ rfl ?_;intro ρ w1 R hcon hfn hρ hb hp hR;have e41:ρ (.tmp 41)=_:=hp 2 41 rfl rfl;clear hρ hp;unfold OpRun;go_simp;exact hR _ _ (Below.refl _ _) rfl)
   case o4=>(refine oQ rfl ?_;intro ρ w1 R hcon hfn hρ hb hp hR;have e42:ρ (.tmp 42)=_:=hp 3 42 rfl rfl;clear hρ hp;unfold OpRun;go_simp;exact hR _ _ (Below.refl _ _) rfl)
   case after=>
    intro u wn hb hf
    have e38:u 38=_:=hf 4 38 (by omega) rfl
    clear hf
    simp only [putAll,Act.put,List.setIfInBounds_toArray,List.set_cons_zero,List.set_cons_succ,List.drop_succ_cons,List.drop_zero,List.drop_nil]
    rw [e38]
    replace yb2:=below_trans yb2 hb
    replace z6:=z6.below hb
    clear hb
    go_upto_region 14 with fail
    obtain ⟨n8,s8,k8,q8,d8⟩:=id z6
    obtain ⟨⟨j0,j1,-⟩,j2,-⟩:=id q8
    go_upto_region 16 with (first
     |(go_at_call 36;(with_reducible refine (QA.out _ _ d8).mono ?_);rintro en w3 ⟨v3,rfl,hq3,hb3⟩)
     |(go_at_call 38;(with_reducible refine (ON.out _).mono ?_);rintro en w4 ⟨v4,rfl,⟨a4,c4,rfl,m4⟩,hb4⟩)
     |(go_at_call 37;(with_reducible refine (QM.out _ _ _ m4).mono ?_);rintro en w5 ⟨v5,rfl,hq5,hb5⟩)
     |(go_at_call 35;(with_reducible refine (QC.out _ _ _ ((hq3.below hb4).below hb5) hq5).mono ?_);rintro en w6 ⟨rfl,hb6⟩;have hb36:=below_trans (below_trans (below_trans hb3 hb4) hb5) hb6))
    replace yb2:=below_trans yb2 hb36
    replace z6:=z6.below hb36
    clear q8 d8 j0 j1 j2 hb3 hb4 hb5 hb6 hb36 hq3 hq5 m4
    have HZ:=hid (show QVr 49 3 w6 g6 D 400000 200000 from by
     obtain ⟨n,s,k,h1,h2⟩:=z6
     exact ⟨n,s,k,h1,h2.weak (by omega) (by omega)⟩)
    go_wp2_with (go_at_call 42;(with_reducible refine (BB2.out _ _ HZ.out).mono ?_);rintro en wA ⟨X,hX,rfl,hbA⟩;have HX:=hid hX;clear hX)
    go_ret2
    exact ⟨X,true,HSX.out X HX.out,rfl,below_trans yb2 hbA⟩
theorem expoExp_any (x:Int) (h0:0≤x) (h1:x<18446744073709551616) (mode:Int) (w:World) (hT:Tab 0 w):
 Calls Tryz.prog 11 #[.int .u64 x,.int .i64 mode] w (RetE9 w mode (XpSaid x mode)):=by
 have KN:=hid (fun w=>known_any mode w)
 have CX:=hid (fun w=>class_any x h0 h1 w)
 cases hk:knownB mode
 ·rw [hk] at KN
  have HN:=hid (show ∀(en:Ending) (w':World),RetX3 w 0 false 1 en w'→RetE9 w mode (XpSaid x mode) en w' from fun en w' h=>RetE9.no hk h)
  clear hk hT
  go_enter Tryz.func11,Tryz.ntmps11
  go_wp2_with (go_at_call 17;(with_reducible refine (KN.out _).mono ?_);rintro en w1 ⟨rfl,rfl⟩)
  refine bodyPost_ret (by simp [results,Tryz.results11,go_sem];try rfl) rfl ?_
  exact HN.out _ _ ⟨rfl,Below.refl _ _⟩
 ·rw [hk] at KN
  have HY:=hid (fun (en:Ending) (w':World) (X:Int) (ch:Bool) (hs:XpSaid x mode X ch) (h:RetX3 w X ch 0 en w')=>RetE9.yes hk hs h)
  obtain ⟨m0,m1⟩:=known_bd hk
  have VX:=hid (fun w t=>value_any x h0 h1 w t)
  have HT:=hid hT
  clear hk hT
  by_cases c5:classOf x=5
  ·have HS:=hid (show ∀X ch,XpSaid x mode X ch=(X=9221120237041090560∧ch=false) from fun X ch=>by unfold XpSaid;rw [if_pos c5])
   rw [c5] at CX
   clear c5 VX
   go_enter Tryz.func11,Tryz.ntmps11
   go_wp2_with (first
    |(go_at_call 17;(with_reducible refine (KN.out _).mono ?_);rintro en w1 ⟨rfl,rfl⟩)
    |(go_at_call 18;(with_reducible refine (CX.out _).mono ?_);rintro en w1 ⟨rfl,rfl⟩))
   refine bodyPost_ret (by simp [results,Tryz.results11,go_sem];try rfl) rfl ?_
   exact HY.out _ _ _ _ (by rw [HS.out];first|exact ⟨rfl,rfl⟩|exact ⟨by first|rfl|assumption,rfl⟩) ⟨rfl,Below.refl _ _⟩
  have z5:(classOf x==5)=false:=beq_eq_false_iff_ne.2 c5
  by_cases c1:classOf x=1
  ·have HS:=hid (show ∀X ch,XpSaid x mode X ch=(X=4607182418800017408∧ch=false) from fun X ch=>by unfold XpSaid;rw [if_neg c5,if_pos c1])
   rw [c1] at CX
   clear c5 VX z5 c1
   go_enter Tryz.func11,Tryz.ntmps11
   go_wp2_with (first
    |(go_at_call 17;(with_reducible refine (KN.out _).mono ?_);rintro en w1 ⟨rfl,rfl⟩)
    |(go_at_call 18;(with_reducible refine (CX.out _).mono ?_);rintro en w1 ⟨rfl,rfl⟩))
   refine bodyPost_ret (by simp [results,Tryz.results11,go_sem];try rfl) rfl ?_
   exact HY.out _ _ _ _ (by rw [HS.out];first|exact ⟨rfl,rfl⟩|exact ⟨by first|rfl|assumption,rfl⟩) ⟨rfl,Below.refl _ _⟩
  have z1:(classOf x==1)=false:=beq_eq_false_iff_ne.2 c1
  by_cases ci:x=9218868437227405312
  ·have HS:=hid (show ∀X ch,XpSaid x mode X ch=(X=x∧ch=false) from fun X ch=>by unfold XpSaid;rw [if_neg c5,if_neg c1,if_pos ci])
   have zi:(x==9218868437227405312)=true:=beq_iff_eq.2 ci
   clear c1 c5 VX ci
   generalize classOf x=k at *
   go_enter Tryz.func11,Tryz.ntmps11
   go_wp2_with (first
    |(go_at_call 17;(with_reducible refine (KN.out _).mono ?_);rintro en w1 ⟨rfl,rfl⟩)
    |(go_at_call 18;(with_reducible refine (CX.out _).mono ?_);rintro en w1 ⟨rfl,rfl⟩))
   refine bodyPost_ret (by simp [results,Tryz.results11,go_sem];try rfl) rfl ?_
   exact HY.out _ _ _ _ (by rw [HS.out];first|exact ⟨rfl,rfl⟩|exact ⟨by first|rfl|assumption,rfl⟩) ⟨rfl,Below.refl _ _⟩
  have zi:(x==9218868437227405312)=false:=beq_eq_false_iff_ne.2 ci
  by_cases cm:x=18442240474082181120
  ·have HS:=hid (show ∀X ch,XpSaid x mode X ch=(X=0∧ch=false) from fun X ch=>by unfold XpSaid;rw [if_neg c5,if_neg c1,if_neg ci,if_pos cm])
   have zm:(x==18442240474082181120)=true:=beq_iff_eq.2 cm
   clear c1 c5 VX ci cm
   generalize classOf x=k at *
   go_enter Tryz.func11,Tryz.ntmps11
   go_wp2_with (first
    |(go_at_call 17;(with_reducible refine (KN.out _).mono ?_);rintro en w1 ⟨rfl,rfl⟩)
    |(go_at_call 18;(with_reducible refine (CX.out _).mono ?_);rintro en w1 ⟨rfl,rfl⟩))
   refine bodyPost_ret (by simp [results,Tryz.results11,go_sem];try rfl) rfl ?_
   exact HY.out _ _ _ _ (by rw [HS.out];first|exact ⟨rfl,rfl⟩|exact ⟨by first|rfl|assumption,rfl⟩) ⟨rfl,Below.refl _ _⟩
  have zm:(x==18442240474082181120)=false:=beq_eq_false_iff_ne.2 cm
  have fnz:=fv_nz x h0 h1 c1
  obtain ⟨-,b1,b2,b3⟩:=fv_bd x h0 h1
  have hl:(limbs (fv x).1.natAbs).length≤10:=len_le (Nat.le_of_lt b1) (by omega)
  have TP:=hid (fun v w hv=>top9_any v (fv x) w hv (by omega) ⟨by omega,by omega⟩)
  have HS0:=hid (show ∀X ch,XpSaid x mode X ch=if topD (fv x)< -60 then X=bsX (nrm 1 0) (sdD (fv x)) mode∧ch=bsC (nrm 1 0) (sdD (fv x)) mode else if 10≤topD (fv x)∧(fv x).1<0 then X=vX 1 mode∧ch=true else if 10≤topD (fv x) then X=bigX mode∧ch=true else ExR (ngD (fv x)) (dyQ (fv x).1.natAbs (fv x).2) false mode X∧ch=true from fun X ch=>by unfold XpSaid;rw [if_neg c5,if_neg c1,if_neg ci,if_neg cm])
  have XO:=fun h=>xp_ok fnz b1 ⟨b2,b3⟩ h
  have SG:=hid (fun v w hv=>dsg9_any v (fv x) fnz w hv)
  clear c1 c5 ci cm b1 b2 b3 hl
  generalize classOf x=k at *
  generalize fv x=D at *
  by_cases ct:topD D< -60
  ·have HS:=hid (show ∀X ch,XpSaid x mode X ch=(X=bsX (nrm 1 0) (sdD D) mode∧ch=bsC (nrm 1 0) (sdD D) mode) from fun X ch=>by rw [HS0.out,if_pos ct])
   have BS:=hid (fun v w hv=>bsd9_any v (nrm 1 0) (sdD D) w (by decide) (by decide) hv)
   have NU:=hid (fun a c w h=>bsn9_any (nrm 1 0) (sdD D) mode a c w (by decide) (by decide) (sd_two D) h)
   have ON:=hid (fun w t=>one9_any w t)
   clear XO fnz HS0
   generalize bsX (nrm 1 0) (sdD D) mode=RX at *
   generalize bsC (nrm 1 0) (sdD D) mode=RC at *
   generalize besNeg (decide ((nrm 1 0).1<0)) (nrm 1 0).1.natAbs (sdD D)=bn at *
   generalize besM (decide ((nrm 1 0).1<0)) (nrm 1 0).1.natAbs (sdD D)=bm at *
   generalize besE (nrm 1 0).1.natAbs (nrm 1 0).2 (sdD D)=be at *
   generalize nrm 1 0=I1 at *
   generalize sdD D=sd at *
   generalize topD D=tp at *
   go_enter Tryz.func11,Tryz.ntmps11
   go_upto_region 12 with (first
    |(go_at_call 17;(with_reducible refine (KN.out _).mono ?_);rintro en w1 ⟨rfl,rfl⟩)
    |(go_at_call 18;(with_reducible refine (CX.out _).mono ?_);rintro en w1 ⟨rfl,rfl⟩)
    |(go_at_call 20;(with_reducible refine (VX.out _ HT.out).mono ?_);rintro en w2 ⟨v2,rfl,⟨a2,c2,rfl,hN2⟩,hb2⟩))
   refine wp_wld9 (fun WW=>Below w.heap.size w WW∧DV 38 WW w2.heap.size D) ⟨below_trans hb2 (below_alloc _ _),⟨a2,c2,QL.made rfl,hN2.below (below_alloc _ _)⟩⟩ ?_
   obtain ⟨g7,hg7⟩: ∃g,g=w2.heap.size:=⟨_,rfl⟩
   rw [←hg7]
   clear hN2 hb2 hg7
   intro W2 ⟨yb2,z7⟩
   obtain ⟨a7,c7,⟨⟨j0,j1,-⟩,j2,-⟩,n7⟩:=id z7
   have v7:VD W2 D (.agg #[.bool (decide (D.1<0)),.slice a7 (limbs D.1.natAbs).length c7,.int .i64 D.2]):=⟨a7,c7,rfl,n7⟩
   go_upto_region 13 with (go_at_call 21;(with_reducible refine (TP.out _ _ v7).mono ?_);rintro en w3 ⟨rfl,hb3⟩;obtain ⟨a8,c8,⟨⟨i0,i1,-⟩,i2,-⟩,n8⟩:=z7.below hb3;skip)
   refine wp_wld9 (fun WW=>Below w.heap.size w WW∧DV 38 WW g7 D) ⟨below_trans yb2 hb3,z7.below hb3⟩ ?_
   clear i0 i1 i2 n8 hb3 yb2 z7 v7 j0 j1 j2 n7
   try clear hng
   intro W2 ⟨yb2,z7⟩
   obtain ⟨a7,c7,⟨⟨j0,j1,-⟩,j2,-⟩,n7⟩:=id z7
   have v7:VD W2 D (.agg #[.bool (decide (D.1<0)),.slice a7 (limbs D.1.natAbs).length c7,.int .i64 D.2]):=⟨a7,c7,rfl,n7⟩
   clear j0 j1 j2 v7 n7
   refine wp_region_grow 9 [32,33,34,35,36,37,38,39,40] [Fact.vd I1,Fact.vd D,Fact.is (.int .i64 sd),Fact.dy bn bm be,Fact.is (.int .i64 mode),Fact.is (.tuple #[.int .u64 RX,.bool RC,.int .i64 0]),Fact.is (.int .u64 RX),Fact.is (.bool RC),Fact.is (.int .i64 0)] (by kernel_rfl) (by kernel_rfl) ⟨?o0,?o1,?o2,?o3,?o4,?o5,?o6,?o7,?o8,trivial⟩ ?after
   case o0=>(refine oQ rfl ?_;intro ρ w1 R hcon hfn hρ hb hp hR;clear hρ hp;unfold OpRun;go_simp;(refine (ON.out _ (HT.out.below (below_trans yb2 hb))).mono ?_;rintro e wn ⟨v9,rfl,hv9,hbn⟩;exact ⟨_,rfl,hR _ _ hbn hv9⟩))
   case o1=>(refine oQ rfl ?_;intro ρ w1 R hcon hfn hρ hb hp hR;have e7:ρ (.tmp 7)=.pointer (some ⟨g7,0,none⟩):=hρ.tmp 7 rfl;obtain ⟨qa,qc,⟨⟨j0,j1,-⟩,j2,-⟩,hqN⟩:=z7.below hb;clear hρ hp;unfold OpRun;go_simp;exact hR _ _ (Below.refl _ _) ⟨qa,qc,rfl,hqN⟩)
   case o2=>(refine oQ rfl ?_;intro ρ w1 R hcon hfn hρ hb hp hR;have f33:=hp 1 33 rfl rfl;clear hρ hp;unfold OpRun;go_simp;(refine (SG.out _ _ f33).mono ?_;rintro e wn ⟨rfl,hbn⟩;exact ⟨_,rfl,hR _ _ hbn rfl⟩))
   case o3=>(refine oQ rfl ?_;intro ρ w1 R hcon hfn hρ hb hp hR;have f32:=hp 0 32 rfl rfl;have e34:ρ (.tmp 34)=_:=hp 2 34 rfl rfl;clear hρ hp;unfold OpRun;go_simp;(refine (BS.out _ _ f32).mono ?_;rintro e wn ⟨a9,c9,rfl,hn9,hbn⟩;exact ⟨_,rfl,hR _ _ hbn ⟨a9,c9,rfl,hn9⟩⟩))
   case o4=>(refine oQ rfl ?_;intro ρ w1 R hcon hfn hρ hb hp hR;have e1:ρ (.tmp 1)=.int .i64 mode:=hρ.tmp 1 rfl;clear hρ hp;unfold OpRun;go_simp;exact hR _ _ (Below.refl _ _) rfl)
   case o5=>(refine oQ rfl ?_;intro ρ w1 R hcon hfn hρ hb hp hR;have f35:=hp 3 35 rfl rfl;have e36:ρ (.tmp 36)=_:=hp 4 36 rfl rfl;obtain ⟨a35,c35,e35,hn35⟩:=f35;clear hρ hp;unfold OpRun;go_simp;(refine (NU.out _ _ _ hn35).mono ?_;rintro e wn ⟨rfl,hbn⟩;exact ⟨_,rfl,hR _ _ hbn rfl⟩))
   case o6=>(refine oQ rfl ?_;intro ρ w1 R hcon hfn hρ hb hp hR;have e37:ρ (.tmp 37)=_:=hp 5 37 rfl rfl;clear hρ hp;unfold OpRun;go_simp;exact hR _ _ (Below.refl _ _) rfl)
   case o7=>(refine oQ rfl ?_;intro ρ w1 R hcon hfn hρ hb hp hR;have e37:ρ (.tmp 37)=_:=hp 5 37 rfl rfl;clear hρ hp;unfold OpRun;go_simp;exact hR _ _ (Below.refl _ _) rfl)
   case o8=>(refine oQ rfl ?_;intro ρ w1 R hcon hfn hρ hb hp hR;have e37:ρ (.tmp 37)=_:=hp 5 37 rfl rfl;clear hρ hp;unfold OpRun;go_simp;exact hR _ _ (Below.refl _ _) rfl)
   case after=>
    intro u wn hb hf
    have e38:u 38=_:=hf 6 38 (by omega) rfl
    have e39:u 39=_:=hf 7 39 (by omega) rfl
    have e40:u 40=_:=hf 8 40 (by omega) rfl
    clear hf
    simp only [putAll,Act.put,List.setIfInBounds_toArray,List.set_cons_zero,List.set_cons_succ,List.drop_succ_cons,List.drop_zero,List.drop_nil]
    rw [e38,e39,e40]
    go_wp2_with fail
    refine bodyPost_ret (by simp [results,Tryz.results11,go_sem];try rfl) rfl ?_
    exact HY.out _ _ RX RC (by rw [HS.out];exact ⟨rfl,rfl⟩) ⟨rfl,below_trans yb2 hb⟩
  ·by_cases cg:10≤topD D
   ·by_cases cn:D.1<0
    ·have HS:=hid (show ∀X ch,XpSaid x mode X ch=(X=vX 1 mode∧ch=true) from fun X ch=>by rw [HS0.out,if_neg ct,if_pos ⟨cg,cn⟩])
     have NU:=hid (fun a c w h=>tinyN_any mode a c w m0 m1 h)
     have TI:=hid (show ∀w,Calls Tryz.prog 46 #[] w (fun e w'=> ∃am cm,e=.returned (.agg #[.bool false,.slice am (limbs 1).length cm,.int .i64 (-2000)])∧Ns .u32 w' am cm (limbs 1)∧Below w.heap.size w w') from fun w=>tiny_any w)
     have HNG:=hid (decide_eq_true cn)
     clear XO fnz SG HS0 cn
     generalize limbs 1=L1 at *
     generalize vX 1 mode=RX at *
     generalize topD D=tp at *
     go_enter Tryz.func11,Tryz.ntmps11
     go_upto_region 12 with (first
      |(go_at_call 17;(with_reducible refine (KN.out _).mono ?_);rintro en w1 ⟨rfl,rfl⟩)
      |(go_at_call 18;(with_reducible refine (CX.out _).mono ?_);rintro en w1 ⟨rfl,rfl⟩)
      |(go_at_call 20;(with_reducible refine (VX.out _ HT.out).mono ?_);rintro en w2 ⟨v2,rfl,⟨a2,c2,rfl,hN2⟩,hb2⟩))
     refine wp_wld9 (fun WW=>Below w.heap.size w WW∧DV 38 WW w2.heap.size D) ⟨below_trans hb2 (below_alloc _ _),⟨a2,c2,QL.made rfl,hN2.below (below_alloc _ _)⟩⟩ ?_
     obtain ⟨g7,hg7⟩: ∃g,g=w2.heap.size:=⟨_,rfl⟩
     rw [←hg7]
     clear hN2 hb2 hg7
     intro W2 ⟨yb2,z7⟩
     obtain ⟨a7,c7,⟨⟨j0,j1,-⟩,j2,-⟩,n7⟩:=id z7
     have v7:VD W2 D (.agg #[.bool (decide (D.1<0)),.slice a7 (limbs D.1.natAbs).length c7,.int .i64 D.2]):=⟨a7,c7,rfl,n7⟩
     go_upto_region 14 with (go_at_call 21;(with_reducible refine (TP.out _ _ v7).mono ?_);rintro en w3 ⟨rfl,hb3⟩;obtain ⟨a8,c8,⟨⟨i0,i1,-⟩,i2,-⟩,n8⟩:=z7.below hb3;skip)
     refine wp_wld9 (fun WW=>Below w.heap.size w WW∧DV 38 WW g7 D) ⟨below_trans yb2 hb3,z7.below hb3⟩ ?_
     clear i0 i1 i2 n8 hb3 yb2 z7 v7 j0 j1 j2 n7
     try clear hng
     intro W2 ⟨yb2,z7⟩
     obtain ⟨a7,c7,⟨⟨j0,j1,-⟩,j2,-⟩,n7⟩:=id z7
     have v7:VD W2 D (.agg #[.bool (decide (D.1<0)),.slice a7 (limbs D.1.natAbs).length c7,.int .i64 D.2]):=⟨a7,c7,rfl,n7⟩
     go_upto_region 15 with (go_at_call 21;(with_reducible refine (TP.out _ _ v7).mono ?_);rintro en w3 ⟨rfl,hb3⟩;obtain ⟨a8,c8,⟨⟨i0,i1,-⟩,i2,-⟩,n8⟩:=z7.below hb3;have hng:=HNG.out)
     refine wp_wld9 (fun WW=>Below w.heap.size w WW∧DV 38 WW g7 D) ⟨below_trans yb2 hb3,z7.below hb3⟩ ?_
     clear i0 i1 i2 n8 hb3 yb2 z7 v7 j0 j1 j2 n7
     try clear hng
     intro W2 ⟨yb2,z7⟩
     obtain ⟨a7,c7,⟨⟨j0,j1,-⟩,j2,-⟩,n7⟩:=id z7
     have v7:VD W2 D (.agg #[.bool (decide (D.1<0)),.slice a7 (limbs D.1.natAbs).length c7,.int .i64 D.2]):=⟨a7,c7,rfl,n7⟩
     go_wp2_with (first
      |(go_at_call 46;(with_reducible refine (TI.out _).mono ?_);rintro en w4 ⟨a4,c4,rfl,hN4,hb4⟩)
      |(go_at_call 22;(with_reducible refine (NU.out _ _ _ hN4).mono ?_);rintro en w5 ⟨rfl,hb5⟩))
     refine bodyPost_ret (by simp [results,Tryz.results11,go_sem];try rfl) rfl ?_
     exact HY.out _ _ RX true (by rw [HS.out];exact ⟨rfl,rfl⟩) ⟨rfl,below_trans (below_trans yb2 hb4) hb5⟩
    ·have HS:=hid (show ∀X ch,XpSaid x mode X ch=(X=bigX mode∧ch=true) from fun X ch=>by rw [HS0.out,if_neg ct,if_neg (fun h=>cn h.2),if_pos cg])
     have NU:=hid (fun a c w h=>hugeN_any mode a c w m0 m1 h)
     have TI:=hid (show ∀w,Calls Tryz.prog 47 #[.bool false] w (fun e w'=> ∃am cm,e=.returned (.agg #[.bool false,.slice am (limbs 1).length cm,.int .i64 2000])∧Ns .u32 w' am cm (limbs 1)∧Below w.heap.size w w') from fun w=>huge_any w)
     have HNG:=hid (decide_eq_false cn)
     clear XO fnz SG HS0 cn
     generalize limbs 1=L1 at *
     generalize bigX mode=RX at *
     generalize topD D=tp at *
     go_enter Tryz.func11,Tryz.ntmps11
     go_upto_region 12 with (first
      |(go_at_call 17;(with_reducible refine (KN.out _).mono ?_);rintro en w1 ⟨rfl,rfl⟩)
      |(go_at_call 18;(with_reducible refine (CX.out _).mono ?_);rintro en w1 ⟨rfl,rfl⟩)
      |(go_at_call 20;(with_reducible refine (VX.out _ HT.out).mono ?_);rintro en w2 ⟨v2,rfl,⟨a2,c2,rfl,hN2⟩,hb2⟩))
     refine wp_wld9 (fun WW=>Below w.heap.size w WW∧DV 38 WW w2.heap.size D) ⟨below_trans hb2 (below_alloc _ _),⟨a2,c2,QL.made rfl,hN2.below (below_alloc _ _)⟩⟩ ?_
     obtain ⟨g7,hg7⟩: ∃g,g=w2.heap.size:=⟨_,rfl⟩
     rw [←hg7]
     clear hN2 hb2 hg7
     intro W2 ⟨yb2,z7⟩
     obtain ⟨a7,c7,⟨⟨j0,j1,-⟩,j2,-⟩,n7⟩:=id z7
     have v7:VD W2 D (.agg #[.bool (decide (D.1<0)),.slice a7 (limbs D.1.natAbs).length c7,.int .i64 D.2]):=⟨a7,c7,rfl,n7⟩
     go_upto_region 14 with (go_at_call 21;(with_reducible refine (TP.out _ _ v7).mono ?_);rintro en w3 ⟨rfl,hb3⟩;obtain ⟨a8,c8,⟨⟨i0,i1,-⟩,i2,-⟩,n8⟩:=z7.below hb3;skip)
     refine wp_wld9 (fun WW=>Below w.heap.size w WW∧DV 38 WW g7 D) ⟨below_trans yb2 hb3,z7.below hb3⟩ ?_
     clear i0 i1 i2 n8 hb3 yb2 z7 v7 j0 j1 j2 n7
     try clear hng
     intro W2 ⟨yb2,z7⟩
     obtain ⟨a7,c7,⟨⟨j0,j1,-⟩,j2,-⟩,n7⟩:=id z7
     have v7:VD W2 D (.agg #[.bool (decide (D.1<0)),.slice a7 (limbs D.1.natAbs).length c7,.int .i64 D.2]):=⟨a7,c7,rfl,n7⟩
     go_upto_region 16 with (go_at_call 21;(with_reducible refine (TP.out _ _ v7).mono ?_);rintro en w3 ⟨rfl,hb3⟩;obtain ⟨a8,c8,⟨⟨i0,i1,-⟩,i2,-⟩,n8⟩:=z7.below hb3;have hng:=HNG.out)
     refine wp_wld9 (fun WW=>Below w.heap.size w WW∧DV 38 WW g7 D) ⟨below_trans yb2 hb3,z7.below hb3⟩ ?_
     clear i0 i1 i2 n8 hb3 yb2 z7 v7 j0 j1 j2 n7
     try clear hng
     intro W2 ⟨yb2,z7⟩
     obtain ⟨a7,c7,⟨⟨j0,j1,-⟩,j2,-⟩,n7⟩:=id z7
     have v7:VD W2 D (.agg #[.bool (decide (D.1<0)),.slice a7 (limbs D.1.natAbs).length c7,.int .i64 D.2]):=⟨a7,c7,rfl,n7⟩
     go_upto_region 17 with (go_at_call 21;(with_reducible refine (TP.out _ _ v7).mono ?_);rintro en w3 ⟨rfl,hb3⟩;obtain ⟨a8,c8,⟨⟨i0,i1,-⟩,i2,-⟩,n8⟩:=z7.below hb3;skip)
     refine wp_wld9 (fun WW=>Below w.heap.size w WW∧DV 38 WW g7 D) ⟨below_trans yb2 hb3,z7.below hb3⟩ ?_
     clear i0 i1 i2 n8 hb3 yb2 z7 v7 j0 j1 j2 n7
     try clear hng
     intro W2 ⟨yb2,z7⟩
     obtain ⟨a7,c7,⟨⟨j0,j1,-⟩,j2,-⟩,n7⟩:=id z7
     have v7:VD W2 D (.agg #[.bool (decide (D.1<0)),.slice a7 (limbs D.1.natAbs).length c7,.int .i64 D.2]):=⟨a7,c7,rfl,n7⟩
     go_wp2_with (first
      |(go_at_call 47;(with_reducible refine (TI.out _).mono ?_);rintro en w4 ⟨a4,c4,rfl,hN4,hb4⟩)
      |(go_at_call 22;(with_reducible refine (NU.out _ _ _ hN4).mono ?_);rintro en w5 ⟨rfl,hb5⟩))
     refine bodyPost_ret (by simp [results,Tryz.results11,go_sem];try rfl) rfl ?_
     exact HY.out _ _ RX true (by rw [HS.out];exact ⟨rfl,rfl⟩) ⟨rfl,below_trans (below_trans yb2 hb4) hb5⟩
   ·have HS:=hid (show ∀X ch,XpSaid x mode X ch=(ExR (ngD D) (dyQ D.1.natAbs D.2) false mode X∧ch=true) from fun X ch=>by rw [HS0.out,if_neg ct,if_neg (fun h=>cg h.1),if_neg cg])
    have XK:=XO (by omega)
    have cg2:topD D<10:=by omega
    have cg3:(decide ((10:Int)≤topD D))=false:=decide_eq_false cg
    have NE:=hid (fun g a c w zD h t=>xpNear_any D.1.natAbs D.2 (decide (D.1<0)) mode g a c w zD h XK m0 m1 t)
    have hmf: ∀fn first cap w,(Instr.makeFunc fn first cap).run Tryz.prog w=.ok (.func fn first cap) w:=fun _ _ _ _=>rfl
    clear XO fnz SG XK HS0
    rw [show ngD D=decide (D.1<0) from rfl] at HS
    generalize dyQ D.1.natAbs D.2=y at *
    generalize topD D=tp at *
    go_enter Tryz.func11,Tryz.ntmps11
    go_upto_region 12 with (first
     |(go_at_call 17;(with_reducible refine (KN.out _).mono ?_);rintro en w1 ⟨rfl,rfl⟩)
     |(go_at_call 18;(with_reducible refine (CX.out _).mono ?_);rintro en w1 ⟨rfl,rfl⟩)
     |(go_at_call 20;(with_reducible refine (VX.out _ HT.out).mono ?_);rintro en w2 ⟨v2,rfl,⟨a2,c2,rfl,hN2⟩,hb2⟩))
    refine wp_wld9 (fun WW=>Below w.heap.size w WW∧DV 38 WW w2.heap.size D) ⟨below_trans hb2 (below_alloc _ _),⟨a2,c2,QL.made rfl,hN2.below (below_alloc _ _)⟩⟩ ?_
    obtain ⟨g7,hg7⟩: ∃g,g=w2.heap.size:=⟨_,rfl⟩
    rw [←hg7]
    clear hN2 hb2 hg7
    intro W2 ⟨yb2,z7⟩
    obtain ⟨a7,c7,⟨⟨j0,j1,-⟩,j2,-⟩,n7⟩:=id z7
    have v7:VD W2 D (.agg #[.bool (decide (D.1<0)),.slice a7 (limbs D.1.natAbs).length c7,.int .i64 D.2]):=⟨a7,c7,rfl,n7⟩
    go_upto_region 14 with (go_at_call 21;(with_reducible refine (TP.out _ _ v7).mono ?_);rintro en w3 ⟨rfl,hb3⟩;obtain ⟨a8,c8,⟨⟨i0,i1,-⟩,i2,-⟩,n8⟩:=z7.below hb3;skip)
    refine wp_wld9 (fun WW=>Below w.heap.size w WW∧DV 38 WW g7 D) ⟨below_trans yb2 hb3,z7.below hb3⟩ ?_
    clear i0 i1 i2 n8 hb3 yb2 z7 v7 j0 j1 j2 n7
    try clear hng
    intro W2 ⟨yb2,z7⟩
    obtain ⟨a7,c7,⟨⟨j0,j1,-⟩,j2,-⟩,n7⟩:=id z7
    have v7:VD W2 D (.agg #[.bool (decide (D.1<0)),.slice a7 (limbs D.1.natAbs).length c7,.int .i64 D.2]):=⟨a7,c7,rfl,n7⟩
    go_upto_region 16 with (go_at_call 21;(with_reducible refine (TP.out _ _ v7).mono ?_);rintro en w3 ⟨rfl,hb3⟩;obtain ⟨a8,c8,⟨⟨i0,i1,-⟩,i2,-⟩,n8⟩:=z7.below hb3;skip)
    refine wp_wld9 (fun WW=>Below w.heap.size w WW∧DV 38 WW g7 D) ⟨below_trans yb2 hb3,z7.below hb3⟩ ?_
    clear i0 i1 i2 n8 hb3 yb2 z7 v7 j0 j1 j2 n7
    try clear hng
    intro W2 ⟨yb2,z7⟩
    obtain ⟨a7,c7,⟨⟨j0,j1,-⟩,j2,-⟩,n7⟩:=id z7
    have v7:VD W2 D (.agg #[.bool (decide (D.1<0)),.slice a7 (limbs D.1.natAbs).length c7,.int .i64 D.2]):=⟨a7,c7,rfl,n7⟩
    go_upto_region 18 with (go_at_call 21;(with_reducible refine (TP.out _ _ v7).mono ?_);rintro en w3 ⟨rfl,hb3⟩;obtain ⟨a8,c8,⟨⟨i0,i1,-⟩,i2,-⟩,n8⟩:=z7.below hb3;skip)
    refine wp_wld9 (fun WW=>Below w.heap.size w WW∧DV 38 WW g7 D) ⟨below_trans yb2 hb3,z7.below hb3⟩ ?_
    clear i0 i1 i2 n8 hb3 yb2 z7 v7 j0 j1 j2 n7
    try clear hng
    intro W2 ⟨yb2,z7⟩
    obtain ⟨a7,c7,⟨⟨j0,j1,-⟩,j2,-⟩,n7⟩:=id z7
    have v7:VD W2 D (.agg #[.bool (decide (D.1<0)),.slice a7 (limbs D.1.natAbs).length c7,.int .i64 D.2]):=⟨a7,c7,rfl,n7⟩
    obtain ⟨a6,c6,z6,n6⟩:=id z7
    have T6:=HT.out.below yb2
    clear j0 j1 j2 v7 n7
    go_wp2_with (go_at_call 48;(with_reducible refine (NE.out _ _ _ _ z6 n6 T6).mono ?_);rintro en w4 ⟨X,hX,rfl,hb4⟩;have HX:=hid hX;clear hX)
    refine bodyPost_ret (by simp [results,Tryz.results11,go_sem];try rfl) rfl ?_
    exact HY.out _ _ X true (by rw [HS.out];exact ⟨HX.out,rfl⟩) ⟨rfl,below_trans yb2 hb4⟩
end Go.Proofs.YtehhegbkahnhgaaGreatDoor
