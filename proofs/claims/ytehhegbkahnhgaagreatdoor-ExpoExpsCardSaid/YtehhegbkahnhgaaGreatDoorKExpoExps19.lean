/- ExpoExps: what the proof leans on, part 19 (Se1 Se2 Sh Se3). -/
import Derived.Test.YtehhegbkahnhgaaGreatDoorKExpoExps8
import Derived.Test.YtehhegbkahnhgaaGreatDoorKExpoExps14
import Derived.Test.YtehhegbkahnhgaaGreatDoorKExpoExps18
set_option linter.unusedVariables false
set_option linter.unusedSimpArgs false
namespace Go.Proofs.YtehhegbkahnhgaaGreatDoor
open Go.RowKit Go.Ulp
set_option maxHeartbeats 4000000
set_option maxRecDepth 100000
theorem times9_any (x y:PP) (p:Nat) (v u:Value) (w:World) (hv:PR w x v) (hu:PR w y u) (l1:(limbs x.1).length≤4294967296) (l2:(limbs x.2).length≤4294967296) (l3:(limbs y.1).length≤4294967296) (l4:(limbs y.2).length≤4294967296)
 (l5:(limbs (x.1*y.1)).length≤4294967296) (l6:(limbs (x.2*y.2)).length≤4294967296) (hn:p≤1099511627776):
 Calls Tryz.prog 120 #[v,u,.int .i64 (p:Int)] w (RetPR w (tmP x y p)):=by
 obtain ⟨l,h⟩:=x
 obtain ⟨m,k⟩:=y
 obtain ⟨a,b,c,d,rfl,h0,h1⟩:=hv
 obtain ⟨a',b',c',d',rfl,h2,h3⟩:=hu
 simp only at *
 have TL:=hid (fun w q r=>times_any a a' c c' l m w q r l1 l3)
 have TH:=hid (fun w q r=>times_any b b' d d' h k w q r l2 l4)
 have HF:=hid (fun v w hv=>half_any (l*m,h*k) p v w hv l5 l6 hn)
 rw [show hfP (l*m,h*k) p=tmP (l,h) (m,k) p from rfl] at HF
 have yb0:Below w.heap.size w (((w.alloc (.cells #[.slice a (limbs l).length c,.slice b (limbs h).length d] 100)).alloc (.cells #[.slice a' (limbs m).length c',.slice b' (limbs k).length d'] 100)).alloc (.cells #[.slice none 0 0,.slice none 0 0] 100)):=by (repeat' first|(with_reducible first|assumption|apply bR|apply bA|apply bN|apply bD|apply bL|apply bS)|refine bT ?_ (by assumption)|go_size)
 have zA:P2 100 (((w.alloc (.cells #[.slice a (limbs l).length c,.slice b (limbs h).length d] 100)).alloc (.cells #[.slice a' (limbs m).length c',.slice b' (limbs k).length d'] 100)).alloc (.cells #[.slice none 0 0,.slice none 0 0] 100)) w.heap.size (.slice a (limbs l).length c) (.slice b (limbs h).length d):=((P2.made rfl).below (below_alloc _ _)).below (below_alloc _ _)
 have zB:P2 100 (((w.alloc (.cells #[.slice a (limbs l).length c,.slice b (limbs h).length d] 100)).alloc (.cells #[.slice a' (limbs m).length c',.slice b' (limbs k).length d'] 100)).alloc (.cells #[.slice none 0 0,.slice none 0 0] 100)) (w.heap.size+1) (.slice a' (limbs m).length c') (.slice b' (limbs k).length d'):=(P2.made (by simp)).below (below_alloc _ _)
 have zR:P2 100 (((w.alloc (.cells #[.slice a (limbs l).length c,.slice b (limbs h).length d] 100)).alloc (.cells #[.slice a' (limbs m).length c',.slice b' (limbs k).length d'] 100)).alloc (.cells #[.slice none 0 0,.slice none 0 0] 100)) (w.heap.size+1+1) (.slice none 0 0) (.slice none 0 0):=P2.made (by simp)
 have H0:=hid h0
 have H1:=hid h1
 have H2:=hid h2
 have H3:=hid h3
 generalize tmP (l,h) (m,k) p=R at *
 clear h0 h1 h2 h3 l1 l2 l3 l4 l5 l6
 go_enter Tryz.func120,Tryz.ntmps120
 go_upto_region 1 with fail
 refine wp_region_grow 13 [7,8,9,10,11,12,13,14,15,16,17,18,19] [Fact.is (.pointer (some ⟨w.heap.size,0,none⟩)),Fact.is (.slice a (limbs l).length c),Fact.is (.pointer (some ⟨w.heap.size+1,0,none⟩)),Fact.is (.slice a' (limbs m).length c'),Fact.li (l*m),Fact.is (.pointer (some ⟨w.heap.size,1,none⟩)),Fact.is (.slice b (limbs h).length d),Fact.is (.pointer (some ⟨w.heap.size+1,1,none⟩)),Fact.is (.slice b' (limbs k).length d'),Fact.li (h*k),Fact.pr (l*m,h*k),Fact.is (.int .i64 (p:Int)),Fact.pr R] (by kernel_rfl) (by kernel_rfl) ⟨?o0,?o1,?o2,?o3,?o4,?o5,?o6,?o7,?o8,?o9,?o10,?o11,?o12,trivial⟩ ?after
 case o0=>(refine oQ rfl ?_;intro ρ w1 R hcon hfn hρ hb hp hR;have e3:ρ (.tmp 3)=.pointer (some ⟨w.heap.size,0,none⟩):=hρ.tmp 3 rfl;clear hρ hp;unfold OpRun;go_simp;exact hR _ _ (Below.refl _ _) rfl)
 case o1=>(refine oQ rfl ?_;intro ρ w1 R hcon hfn hρ hb hp hR;have e7:ρ (.tmp 7)=_:=hp 0 7 rfl rfl;obtain ⟨j0,j1,-⟩:=zA.below hb;clear hρ hp;unfold OpRun;go_simp;exact hR _ _ (Below.refl _ _) rfl)
 case o2=>(refine oQ rfl ?_;intro ρ w1 R hcon hfn hρ hb hp hR;have e4:ρ (.tmp 4)=.pointer (some ⟨w.heap.size+1,0,none⟩):=hρ.tmp 4 rfl;clear hρ hp;unfold OpRun;go_simp;exact hR _ _ (Below.refl _ _) rfl)
 case o3=>(refine oQ rfl ?_;intro ρ w1 R hcon hfn hρ hb hp hR;have e9:ρ (.tmp 9)=_:=hp 2 9 rfl rfl;obtain ⟨j0,j1,-⟩:=zB.below hb;clear hρ hp;unfold OpRun;go_simp;exact hR _ _ (Below.refl _ _) rfl)
 case o4=>(refine oQ rfl ?_;intro ρ w1 R hcon hfn hρ hb hp hR;have e8:ρ (.tmp 8)=_:=hp 1 8 rfl rfl;have e10:ρ (.tmp 10)=_:=hp 3 10 rfl rfl;clear hρ hp;unfold OpRun;go_simp;(refine (TL.out _ (H0.out.below (below_trans yb0 hb)) (H2.out.below (below_trans yb0 hb))).mono ?_;rintro e wn ⟨a9,rfl,hn9,hbn⟩;exact ⟨_,rfl,hR _ _ hbn ⟨a9,_,rfl,hn9⟩⟩))
 case o5=>(refine oQ rfl ?_;intro ρ w1 R hcon hfn hρ hb hp hR;have e3:ρ (.tmp 3)=.pointer (some ⟨w.heap.size,0,none⟩):=hρ.tmp 3 rfl;clear hρ hp;unfold OpRun;go_simp;exact hR _ _ (Below.refl _ _) rfl)
 case o6=>(refine oQ rfl ?_;intro ρ w1 R hcon hfn hρ hb hp hR;have e12:ρ (.tmp 12)=_:=hp 5 12 rfl rfl;obtain ⟨j0,j1,-⟩:=zA.below hb;clear hρ hp;unfold OpRun;go_simp;exact hR _ _ (Below.refl _ _) rfl)
 case o7=>(refine oQ rfl ?_;intro ρ w1 R hcon hfn hρ hb hp hR;have e4:ρ (.tmp 4)=.pointer (some ⟨w.heap.size+1,0,none⟩):=hρ.tmp 4 rfl;clear hρ hp;unfold OpRun;go_simp;exact hR _ _ (Below.refl _ _) rfl)
 case o8=>(refine oQ rfl ?_;intro ρ w1 R hcon hfn hρ hb hp hR;have e14:ρ (.tmp 14)=_:=hp 7 14 rfl rfl;obtain ⟨j0,j1,-⟩:=zB.below hb;clear hρ hp;unfold OpRun;go_simp;exact hR _ _ (Below.refl _ _) rfl)
 case o9=>(refine oQ rfl ?_;intro ρ w1 R hcon hfn hρ hb hp hR;have e13:ρ (.tmp 13)=_:=hp 6 13 rfl rfl;have e15:ρ (.tmp 15)=_:=hp 8 15 rfl rfl;clear hρ hp;unfold OpRun;go_simp;(refine (TH.out _ (H1.out.below (below_trans yb0 hb)) (H3.out.below (below_trans yb0 hb))).mono ?_;rintro e wn ⟨a9,rfl,hn9,hbn⟩;exact ⟨_,rfl,hR _ _ hbn ⟨a9,_,rfl,hn9⟩⟩))
 case o10=>(refine oQ rfl ?_;intro ρ w1 R hcon hfn hρ hb hp hR;have f11:=hp 4 11 rfl rfl;have f16:=hp 9 16 rfl rfl;obtain ⟨a9,c9,e11,hn9⟩:=f11;obtain ⟨b9,d9,e16,hm9⟩:=f16;clear hρ hp;unfold OpRun;go_simp;exact hR _ _ (Below.refl _ _) ⟨a9,b9,c9,d9,rfl,hn9,hm9⟩)
 case o11=>(refine oQ rfl ?_;intro ρ w1 R hcon hfn hρ hb hp hR;have e2:ρ (.tmp 2)=.int .i64 (p:Int):=hρ.tmp 2 rfl;clear hρ hp;unfold OpRun;go_simp;exact hR _ _ (Below.refl _ _) rfl)
 case o12=>(refine oQ rfl ?_;intro ρ w1 R hcon hfn hρ hb hp hR;have f17:=hp 10 17 rfl rfl;have e18:ρ (.tmp 18)=_:=hp 11 18 rfl rfl;clear hρ hp;unfold OpRun;go_simp;(refine (HF.out _ _ f17).mono ?_;rintro e wn ⟨v8,rfl,hv8,hbn⟩;exact ⟨_,rfl,hR _ _ hbn hv8⟩))
 case after=>
  intro u wn hb hf
  have f19:=hf 12 19 (by omega) rfl
  clear hf
  simp only [putAll,Act.put,List.setIfInBounds_toArray,List.set_cons_zero,List.set_cons_succ,List.drop_succ_cons,List.drop_zero,List.drop_nil]
  obtain ⟨a9,b9,c9,d9,e19,hn9,hm9⟩:=f19
  rw [e19]
  have zR2:=zR.below hb
  have yb2:=below_trans yb0 hb
  obtain ⟨k0,k1,f0,f1,-⟩:=id zR2
  go_wp2_with fail
  refine bodyPost_ret (by simp [results,Tryz.results120,go_sem,k0,k1];try rfl) rfl ?_
  exact ⟨_,rfl,⟨_,_,_,_,rfl,hn9.put2 zR2 sl_no sl_no _ _,hm9.put2 zR2 sl_no sl_no _ _⟩,below_put2 yb2 (by omega) _ _⟩
theorem plus9_any (x y:PP) (v u:Value) (w:World) (hv:PR w x v) (hu:PR w y u) (l1:(limbs x.1).length≤4294967296) (l2:(limbs x.2).length≤4294967296) (l3:(limbs y.1).length≤4294967296) (l4:(limbs y.2).length≤4294967296):
 Calls Tryz.prog 121 #[v,u] w (RetPR w (plP x y)):=by
 obtain ⟨l,h⟩:=x
 obtain ⟨m,k⟩:=y
 obtain ⟨a,b,c,d,rfl,h0,h1⟩:=hv
 obtain ⟨a',b',c',d',rfl,h2,h3⟩:=hu
 simp only at *
 have TL:=hid (fun w q r=>plus_any a a' c c' l m w q r l1 l3)
 have TH:=hid (fun w q r=>plus_any b b' d d' h k w q r l2 l4)
 rw [show plP (l,h) (m,k)=(l+m,h+k) from rfl]
 have yb0:Below w.heap.size w (((w.alloc (.cells #[.slice a (limbs l).length c,.slice b (limbs h).length d] 100)).alloc (.cells #[.slice a' (limbs m).length c',.slice b' (limbs k).length d'] 100)).alloc (.cells #[.slice none 0 0,.slice none 0 0] 100)):=by (repeat' first|(with_reducible first|assumption|apply bR|apply bA|apply bN|apply bD|apply bL|apply bS)|refine bT ?_ (by assumption)|go_size)
 have zA:P2 100 (((w.alloc (.cells #[.slice a (limbs l).length c,.slice b (limbs h).length d] 100)).alloc (.cells #[.slice a' (limbs m).length c',.slice b' (limbs k).length d'] 100)).alloc (.cells #[.slice none 0 0,.slice none 0 0] 100)) w.heap.size (.slice a (limbs l).length c) (.slice b (limbs h).length d):=((P2.made rfl).below (below_alloc _ _)).below (below_alloc _ _)
 have zB:P2 100 (((w.alloc (.cells #[.slice a (limbs l).length c,.slice b (limbs h).length d] 100)).alloc (.cells #[.slice a' (limbs m).length c',.slice b' (limbs k).length d'] 100)).alloc (.cells #[.slice none 0 0,.slice none 0 0] 100)) (w.heap.size+1) (.slice a' (limbs m).length c') (.slice b' (limbs k).length d'):=(P2.made (by simp)).below (below_alloc _ _)
 have zR:P2 100 (((w.alloc (.cells #[.slice a (limbs l).length c,.slice b (limbs h).length d] 100)).alloc (.cells #[.slice a' (limbs m).length c',.slice b' (limbs k).length d'] 100)).alloc (.cells #[.slice none 0 0,.slice none 0 0] 100)) (w.heap.size+1+1) (.slice none 0 0) (.slice none 0 0):=P2.made (by simp)
 have H0:=hid h0
 have H1:=hid h1
 have H2:=hid h2
 have H3:=hid h3
 clear h0 h1 h2 h3 l1 l2 l3 l4
 go_enter Tryz.func121,Tryz.ntmps121
 go_upto_region 1 with fail
 refine wp_region_grow 11 [5,6,7,8,9,10,11,12,13,14,15] [Fact.is (.pointer (some ⟨w.heap.size,0,none⟩)),Fact.is (.slice a (limbs l).length c),Fact.is (.pointer (some ⟨w.heap.size+1,0,none⟩)),Fact.is (.slice a' (limbs m).length c'),Fact.li (l+m),Fact.is (.pointer (some ⟨w.heap.size,1,none⟩)),Fact.is (.slice b (limbs h).length d),Fact.is (.pointer (some ⟨w.heap.size+1,1,none⟩)),Fact.is (.slice b' (limbs k).length d'),Fact.li (h+k),Fact.pr (l+m,h+k)] (by kernel_rfl) (by kernel_rfl) ⟨?o0,?o1,?o2,?o3,?o4,?o5,?o6,?o7,?o8,?o9,?o10,trivial⟩ ?after
 case o0=>(refine oQ rfl ?_;intro ρ w1 R hcon hfn hρ hb hp hR;have e2:ρ (.tmp 2)=.pointer (some ⟨w.heap.size,0,none⟩):=hρ.tmp 2 rfl;clear hρ hp;unfold OpRun;go_simp;exact hR _ _ (Below.refl _ _) rfl)
 case o1=>(refine oQ rfl ?_;intro ρ w1 R hcon hfn hρ hb hp hR;have e5:ρ (.tmp 5)=_:=hp 0 5 rfl rfl;obtain ⟨j0,j1,-⟩:=zA.below hb;clear hρ hp;unfold OpRun;go_simp;exact hR _ _ (Below.refl _ _) rfl)
 case o2=>(refine oQ rfl ?_;intro ρ w1 R hcon hfn hρ hb hp hR;have e3:ρ (.tmp 3)=.pointer (some ⟨w.heap.size+1,0,none⟩):=hρ.tmp 3 rfl;clear hρ hp;unfold OpRun;go_simp;exact hR _ _ (Below.refl _ _) rfl)
 case o3=>(refine oQ rfl ?_;intro ρ w1 R hcon hfn hρ hb hp hR;have e7:ρ (.tmp 7)=_:=hp 2 7 rfl rfl;obtain ⟨j0,j1,-⟩:=zB.below hb;clear hρ hp;unfold OpRun;go_simp;exact hR _ _ (Below.refl _ _) rfl)
 case o4=>(refine oQ rfl ?_;intro ρ w1 R hcon hfn hρ hb hp hR;have e6:ρ (.tmp 6)=_:=hp 1 6 rfl rfl;have e8:ρ (.tmp 8)=_:=hp 3 8 rfl rfl;clear hρ hp;unfold OpRun;go_simp;(refine (TL.out _ (H0.out.below (below_trans yb0 hb)) (H2.out.below (below_trans yb0 hb))).mono ?_;rintro e wn ⟨a9,rfl,hn9,hbn⟩;exact ⟨_,rfl,hR _ _ hbn ⟨a9,_,rfl,hn9⟩⟩))
 case o5=>(refine oQ rfl ?_;intro ρ w1 R hcon hfn hρ hb hp hR;have e2:ρ (.tmp 2)=.pointer (some ⟨w.heap.size,0,none⟩):=hρ.tmp 2 rfl;clear hρ hp;unfold OpRun;go_simp;exact hR _ _ (Below.refl _ _) rfl)
 case o6=>(refine oQ rfl ?_;intro ρ w1 R hcon hfn hρ hb hp hR;have e10:ρ (.tmp 10)=_:=hp 5 10 rfl rfl;obtain ⟨j0,j1,-⟩:=zA.below hb;clear hρ hp;unfold OpRun;go_simp;exact hR _ _ (Below.refl _ _) rfl)
 case o7=>(refine oQ rfl ?_;intro ρ w1 R hcon hfn hρ hb hp hR;have e3:ρ (.tmp 3)=.pointer (some ⟨w.heap.size+1,0,none⟩):=hρ.tmp 3 rfl;clear hρ hp;unfold OpRun;go_simp;exact hR _ _ (Below.refl _ _) rfl)
 case o8=>(refine oQ rfl ?_;intro ρ w1 R hcon hfn hρ hb hp hR;have e12:ρ (.tmp 12)=_:=hp 7 12 rfl rfl;obtain ⟨j0,j1,-⟩:=zB.below hb;clear hρ hp;unfold OpRun;go_simp;exact hR _ _ (Below.refl _ _) rfl)
 case o9=>(refine oQ rfl ?_;intro ρ w1 R hcon hfn hρ hb hp hR;have e11:ρ (.tmp 11)=_:=hp 6 11 rfl rfl;have e13:ρ (.tmp 13)=_:=hp 8 13 rfl rfl;clear hρ hp;unfold OpRun;go_simp;(refine (TH.out _ (H1.out.below (below_trans yb0 hb)) (H3.out.below (below_trans yb0 hb))).mono ?_;rintro e wn ⟨a9,rfl,hn9,hbn⟩;exact ⟨_,rfl,hR _ _ hbn ⟨a9,_,rfl,hn9⟩⟩))
 case o10=>(refine oQ rfl ?_;intro ρ w1 R hcon hfn hρ hb hp hR;have f9:=hp 4 9 rfl rfl;have f14:=hp 9 14 rfl rfl;obtain ⟨a9,c9,e9,hn9⟩:=f9;obtain ⟨b9,d9,e14,hm9⟩:=f14;clear hρ hp;unfold OpRun;go_simp;exact hR _ _ (Below.refl _ _) ⟨a9,b9,c9,d9,rfl,hn9,hm9⟩)
 case after=>
  intro u wn hb hf
  have f15:=hf 10 15 (by omega) rfl
  clear hf
  simp only [putAll,Act.put,List.setIfInBounds_toArray,List.set_cons_zero,List.set_cons_succ,List.drop_succ_cons,List.drop_zero,List.drop_nil]
  obtain ⟨a9,b9,c9,d9,e15,hn9,hm9⟩:=f15
  rw [e15]
  have zR2:=zR.below hb
  have yb2:=below_trans yb0 hb
  obtain ⟨k0,k1,f0,f1,-⟩:=id zR2
  go_wp2_with fail
  refine bodyPost_ret (by simp [results,Tryz.results121,go_sem,k0,k1];try rfl) rfl ?_
  exact ⟨_,rfl,⟨_,_,_,_,rfl,hn9.put2 zR2 sl_no sl_no _ _,hm9.put2 zR2 sl_no sl_no _ _⟩,below_put2 yb2 (by omega) _ _⟩
theorem fixed_any (m:Nat) (e:Int) (p:Nat) (a:Option Addr) (c:Nat) (w:World) (h0:Ns .u32 w a c (limbs m)) (l1:(limbs m).length≤4294967296) (he: -549755813888≤e∧e≤549755813888) (hp:p≤549755813888):
 Calls Tryz.prog 118 #[.slice a (limbs m).length c,.int .i64 e,.int .i64 (p:Int)] w (RetPR w (fxP m e p)):=by
 have yb0:=below_alloc w (.cells #[.slice none 0 0,.slice none 0 0] 100)
 have zR:P2 100 (w.alloc (.cells #[.slice none 0 0,.slice none 0 0] 100)) w.heap.size (.slice none 0 0) (.slice none 0 0):=P2.made rfl
 by_cases hc:0≤e+p
 ·obtain ⟨n,hn⟩: ∃n:Nat,(n:Int)=e+p:=⟨(e+p).toNat,by omega⟩
  have HX:=hid (show fxP m e p=(m*2^n,m*2^n) by unfold fxP;rw [if_pos hc,show (e+(p:Int)).toNat=n by omega])
  have LE:=hid (fun w h=>leftN_any a c m n w h l1 (by omega))
  rw [HX.out]
  have H0:=hid h0
  have wI:IntKind.i64.wrap (e+(p:Int))=(n:Int):=by rw [hn];exact IntWalk.i64_in _ (by omega)
  have g1:(0:Int)≤(n:Int):=by omega
  clear HX h0 hc hn
  go_enter Tryz.func118,Tryz.ntmps118
  go_upto_region 3 with (go_at_call 69;(with_reducible refine (LE.out _ (H0.out.below yb0)).mono ?_);rintro en w1 ⟨b0,rfl,hN1,hb1⟩)
  have yb1:=below_trans yb0 hb1
  have zR1:=zR.below hb1
  obtain ⟨k0,k1,f0,f1,-⟩:=id zR1
  go_wp2_with fail
  refine bodyPost_ret (by simp [results,Tryz.results118,go_sem,k0,k1];try rfl) rfl ?_
  exact ⟨_,rfl,⟨_,_,_,_,rfl,hN1.put2 zR1 sl_no sl_no _ _,hN1.put2 zR1 sl_no sl_no _ _⟩,below_put2 yb1 (by omega) _ _⟩
 ·obtain ⟨n,hn⟩: ∃n:Nat,(n:Int)= -(e+p):=⟨(-(e+p)).toNat,by omega⟩
  have HX:=hid (show fxP m e p=hfP (m,m) n by unfold fxP;rw [if_neg hc,show (-(e+(p:Int))).toNat=n by omega])
  have HF:=hid (fun v w hv=>half_any (m,m) n v w hv l1 l1 (by omega))
  rw [HX.out]
  generalize hfP (m,m) n=R at *
  have H0:=hid h0
  have wI:IntKind.i64.wrap (e+(p:Int))= -(n:Int):=by rw [hn];rw [IntWalk.i64_in _ (by omega)];omega
  have wN:IntKind.i64.wrap (-e)= -e:=IntWalk.i64_in _ (by omega)
  have wS:IntKind.i64.wrap (-e-(p:Int))=(n:Int):=by rw [IntWalk.i64_in _ (by omega)];omega
  have g1: ¬(0:Int)≤ -(n:Int):=by omega
  clear HX h0 hc hn
  go_enter Tryz.func118,Tryz.ntmps118
  go_wp2_with (go_at_call 132;(refine (HF.out _ _ ⟨_,_,_,_,rfl,H0.out.below yb0,H0.out.below yb0⟩).mono ?_);rintro en w1 ⟨v1,rfl,⟨a9,b9,c9,d9,rfl,hn9,hm9⟩,hb1⟩;have yb1:=below_trans yb0 hb1;have zR1:=zR.below hb1;obtain ⟨k0,k1,f0,f1,-⟩:=id zR1)
  refine bodyPost_ret (by simp [results,Tryz.results118,go_sem,k0,k1];try rfl) rfl ?_
  exact ⟨_,rfl,⟨_,_,_,_,rfl,hn9.put2 zR1 sl_no sl_no _ _,hm9.put2 zR1 sl_no sl_no _ _⟩,below_put2 yb1 (by omega) _ _⟩
end Go.Proofs.YtehhegbkahnhgaaGreatDoor
namespace Go.Ulp
open Go.RowKit
def Fact.n9 (q r:Nat):Fact:=⟨fun v w=> ∃ao cap bo cbp,v=.tuple #[.slice ao (limbs q).length cap,.slice bo (limbs r).length cbp]∧Ns .u32 w ao cap (limbs q)∧Ns .u32 w bo cbp (limbs r),fun _ _ _ h hb=>by
 obtain ⟨a,b,c,d,h1,h2,h3⟩:=h
 exact ⟨a,b,c,d,h1,h2.below hb,h3.below hb⟩⟩
def RetVD2 (w:World) (D E:Dy) (e:Ending) (w':World):Prop:= ∃v u,e=.returned (.tuple #[v,u])∧VD w' D v∧VD w' E u∧Below w.heap.size w w'
end Go.Ulp
namespace Go.Proofs.YtehhegbkahnhgaaGreatDoor
open Go.RowKit Go.Ulp
set_option maxHeartbeats 4000000
set_option maxRecDepth 100000
theorem over9_any (x:PP) (n:Nat) (v:Value) (w:World) (hv:PR w x v) (l1:(limbs x.1).length≤4294967296) (l2:(limbs x.2).length≤4294967296) (hn0:0<n) (hn:n≤9223372036854775807):
 Calls Tryz.prog 119 #[v,.int .i64 (n:Int)] w (RetPR w (ovP x n)):=by
 obtain ⟨l,h⟩:=x
 obtain ⟨a,b,c,d,rfl,h0,h1⟩:=hv
 simp only at *
 have OFn:=hid (show ∀w,Calls Tryz.prog 66 #[.int .u64 (n:Int)] w fun e w'=>RetN w n e w' from fun w=>natOf_any n (by omega) w)
 have O0:=hid (fun a' c' w q r=>over_any a a' c c' l n w q r l1 hn0)
 have O1:=hid (fun a' c' w q r=>over_any b a' d c' h n w q r l2 hn0)
 have l3:(limbs (h/n)).length≤4294967296:=Nat.le_trans (limbs_len_mono (Nat.div_le_self _ _)) l2
 have OF:=hid (show ∀w,Calls Tryz.prog 66 #[.int .u64 1] w fun e w'=>RetN w 1 e w' from fun w=>natOf_any 1 (by omega) w)
 have PL:=hid (fun a c b d w k1 k2=>plus_any a b c d (h/n) 1 w k1 k2 l3 (by decide))
 have zA:P2 100 ((w.alloc (.cells #[.slice a (limbs l).length c,.slice b (limbs h).length d] 100)).alloc (.cells #[.slice none 0 0,.slice none 0 0] 100)) w.heap.size (.slice a (limbs l).length c) (.slice b (limbs h).length d):=(P2.made rfl).below (below_alloc _ _)
 have zR:P2 100 ((w.alloc (.cells #[.slice a (limbs l).length c,.slice b (limbs h).length d] 100)).alloc (.cells #[.slice none 0 0,.slice none 0 0] 100)) (w.heap.size+1) (.slice none 0 0) (.slice none 0 0):=P2.made (by simp)
 have yb0:Below w.heap.size w ((w.alloc (.cells #[.slice a (limbs l).length c,.slice b (limbs h).length d] 100)).alloc (.cells #[.slice none 0 0,.slice none 0 0] 100)):=by (repeat' first|(with_reducible first|assumption|apply bR|apply bA|apply bN|apply bD|apply bL|apply bS)|refine bT ?_ (by assumption)|go_size)
 have HX:=hid (show ovP (l,h) n=(l/n,if h%n=0 then h/n else h/n+1) from rfl)
 have H0:=hid h0
 have H1:=hid h1
 have wU:IntKind.u64.wrap (n:Int)=(n:Int):=by
  show (n:Int)%18446744073709551616=n
  omega
 obtain ⟨q0,hq0⟩: ∃q,q=l/n:=⟨_,rfl⟩
 obtain ⟨r0,hr0⟩: ∃q,q=l%n:=⟨_,rfl⟩
 obtain ⟨q1,hq1⟩: ∃q,q=h/n:=⟨_,rfl⟩
 obtain ⟨r1,hr1⟩: ∃q,q=h%n:=⟨_,rfl⟩
 rw [←hq0,←hr0] at O0
 rw [←hq1,←hr1] at O1
 rw [←hq0,←hq1,←hr1] at HX
 rw [←hq1] at PL
 generalize ovP (l,h) n=RR at HX ⊢
 clear h0 h1 hq0 hq1 hr0 hr1 l1 l2 l3
 go_enter Tryz.func119,Tryz.ntmps119
 go_upto_region 1 with fail
 refine wp_region_grow 11 [10,11,12,13,14,15,9,16,17,5,6] [Fact.is (.pointer (some ⟨w.heap.size,0,none⟩)),Fact.is (.slice a (limbs l).length c),Fact.is (.int .i64 (n:Int)),Fact.is (.int .u64 (n:Int)),Fact.li n,Fact.n9 q0 r0,Fact.n9 q0 r0,Fact.li q0,Fact.li r0,Fact.li q0,Fact.li r0] (by kernel_rfl) (by kernel_rfl) ⟨?o0,?o1,?o2,?o3,?o4,?o5,?o6,?o7,?o8,?o9,?o10,trivial⟩ ?after
 case o0=>(refine oQ rfl ?_;intro ρ w1 R hcon hfn hρ hb hp hR;have e2:ρ (.tmp 2)=.pointer (some ⟨w.heap.size,0,none⟩):=hρ.tmp 2 rfl;clear hρ hp;unfold OpRun;go_simp;exact hR _ _ (Below.refl _ _) rfl)
 case o1=>(refine oQ rfl ?_;intro ρ w1 R hcon hfn hρ hb hp hR;have e10:ρ (.tmp 10)=_:=hp 0 10 rfl rfl;obtain ⟨j0,j1,-⟩:=zA.below hb;clear hρ hp;unfold OpRun;go_simp;exact hR _ _ (Below.refl _ _) rfl)
 case o2=>(refine oQ rfl ?_;intro ρ w1 R hcon hfn hρ hb hp hR;have e1:ρ (.tmp 1)=.int .i64 (n:Int):=hρ.tmp 1 rfl;clear hρ hp;unfold OpRun;go_simp;exact hR _ _ (Below.refl _ _) rfl)
 case o3=>(refine oQ rfl ?_;intro ρ w1 R hcon hfn hρ hb hp hR;have e12:ρ (.tmp 12)=_:=hp 2 12 rfl rfl;clear hρ hp;unfold OpRun;go_simp;exact hR _ _ (Below.refl _ _) rfl)
 case o4=>(refine oQ rfl ?_;intro ρ w1 R hcon hfn hρ hb hp hR;have e13:ρ (.tmp 13)=_:=hp 3 13 rfl rfl;clear hρ hp;unfold OpRun;go_simp;(refine (OFn.out _).mono ?_;rintro e wn ⟨a9,rfl,hn9,hbn⟩;exact ⟨_,rfl,hR _ _ hbn ⟨a9,_,rfl,hn9⟩⟩))
 case o5=>(refine oQ rfl ?_;intro ρ w1 R hcon hfn hρ hb hp hR;have e11:ρ (.tmp 11)=_:=hp 1 11 rfl rfl;have f14:=hp 4 14 rfl rfl;obtain ⟨a8,c8,e14,hn8⟩:=f14;clear hρ hp;unfold OpRun;go_simp;(skip;refine (O0.out _ _ _ (H0.out.below (below_trans yb0 hb)) hn8).mono ?_;rintro e wn ⟨a9,c9,b9,d9,rfl,hn9,hm9,hbn⟩;exact ⟨_,rfl,hR _ _ hbn ⟨a9,c9,b9,d9,rfl,hn9,hm9⟩⟩))
 case o6=>(refine oQ rfl ?_;intro ρ w1 R hcon hfn hρ hb hp hR;have f15:=hp 5 15 rfl rfl;clear hρ hp;unfold OpRun;go_simp;exact hR _ _ (Below.refl _ _) f15)
 case o7=>(refine oQ rfl ?_;intro ρ w1 R hcon hfn hρ hb hp hR;have f9:=hp 6 9 rfl rfl;obtain ⟨a8,c8,b8,d8,e9,hn8,hm8⟩:=f9;clear hρ hp;unfold OpRun;go_simp;exact hR _ _ (Below.refl _ _) ⟨a8,c8,rfl,hn8⟩)
 case o8=>(refine oQ rfl ?_;intro ρ w1 R hcon hfn hρ hb hp hR;have f9:=hp 6 9 rfl rfl;obtain ⟨a8,c8,b8,d8,e9,hn8,hm8⟩:=f9;clear hρ hp;unfold OpRun;go_simp;exact hR _ _ (Below.refl _ _) ⟨b8,d8,rfl,hm8⟩)
 case o9=>(refine oQ rfl ?_;intro ρ w1 R hcon hfn hρ hb hp hR;have f16:=hp 7 16 rfl rfl;clear hρ hp;unfold OpRun;go_simp;exact hR _ _ (Below.refl _ _) f16)
 case o10=>(refine oQ rfl ?_;intro ρ w1 R hcon hfn hρ hb hp hR;have f17:=hp 8 17 rfl rfl;clear hρ hp;unfold OpRun;go_simp;exact hR _ _ (Below.refl _ _) f17)
 case after=>
  intro u wn hb hf
  have f5:=hf 9 5 (by omega) rfl
  clear hf
  simp only [putAll,Act.put,List.setIfInBounds_toArray,List.set_cons_zero,List.set_cons_succ,List.drop_succ_cons,List.drop_zero,List.drop_nil]
  obtain ⟨a5,c5,e5,hN5⟩:=f5
  rw [e5]
  have zA1:=zA.below hb
  have zR1:=zR.below hb
  have yb1:=below_trans yb0 hb
  clear zA zR yb0 hb e5 O0
  go_upto_region 2 with fail
  refine wp_region_grow 11 [19,20,21,22,23,24,18,25,26,7,8] [Fact.is (.pointer (some ⟨w.heap.size,1,none⟩)),Fact.is (.slice b (limbs h).length d),Fact.is (.int .i64 (n:Int)),Fact.is (.int .u64 (n:Int)),Fact.li n,Fact.n9 q1 r1,Fact.n9 q1 r1,Fact.li q1,Fact.li r1,Fact.li q1,Fact.li r1] (by kernel_rfl) (by kernel_rfl) ⟨?o0,?o1,?o2,?o3,?o4,?o5,?o6,?o7,?o8,?o9,?o10,trivial⟩ ?after
  case o0=>(refine oQ rfl ?_;intro ρ w1 R hcon hfn hρ hb hp hR;have e2:ρ (.tmp 2)=.pointer (some ⟨w.heap.size,0,none⟩):=hρ.tmp 2 rfl;clear hρ hp;unfold OpRun;go_simp;exact hR _ _ (Below.refl _ _) rfl)
  case o1=>(refine oQ rfl ?_;intro ρ w1 R hcon hfn hρ hb hp hR;have e19:ρ (.tmp 19)=_:=hp 0 19 rfl rfl;obtain ⟨j0,j1,-⟩:=zA1.below hb;clear hρ hp;unfold OpRun;go_simp;exact hR _ _ (Below.refl _ _) rfl)
  case o2=>(refine oQ rfl ?_;intro ρ w1 R hcon hfn hρ hb hp hR;have e1:ρ (.tmp 1)=.int .i64 (n:Int):=hρ.tmp 1 rfl;clear hρ hp;unfold OpRun;go_simp;exact hR _ _ (Below.refl _ _) rfl)
  case o3=>(refine oQ rfl ?_;intro ρ w1 R hcon hfn hρ hb hp hR;have e21:ρ (.tmp 21)=_:=hp 2 21 rfl rfl;clear hρ hp;unfold OpRun;go_simp;exact hR _ _ (Below.refl _ _) rfl)
  case o4=>(refine oQ rfl ?_;intro ρ w1 R hcon hfn hρ hb hp hR;have e22:ρ (.tmp 22)=_:=hp 3 22 rfl rfl;clear hρ hp;unfold OpRun;go_simp;(refine (OFn.out _).mono ?_;rintro e wn ⟨a9,rfl,hn9,hbn⟩;exact ⟨_,rfl,hR _ _ hbn ⟨a9,_,rfl,hn9⟩⟩))
  case o5=>(refine oQ rfl ?_;intro ρ w1 R hcon hfn hρ hb hp hR;have e20:ρ (.tmp 20)=_:=hp 1 20 rfl rfl;have f23:=hp 4 23 rfl rfl;obtain ⟨a8,c8,e23,hn8⟩:=f23;clear hρ hp;unfold OpRun;go_simp;(skip;refine (O1.out _ _ _ (H1.out.below (below_trans yb1 hb)) hn8).mono ?_;rintro e wn ⟨a9,c9,b9,d9,rfl,hn9,hm9,hbn⟩;exact ⟨_,rfl,hR _ _ hbn ⟨a9,c9,b9,d9,rfl,hn9,hm9⟩⟩))
  case o6=>(refine oQ rfl ?_;intro ρ w1 R hcon hfn hρ hb hp hR;have f24:=hp 5 24 rfl rfl;clear hρ hp;unfold OpRun;go_simp;exact hR _ _ (Below.refl _ _) f24)
  case o7=>(refine oQ rfl ?_;intro ρ w1 R hcon hfn hρ hb hp hR;have f18:=hp 6 18 rfl rfl;obtain ⟨a8,c8,b8,d8,e18,hn8,hm8⟩:=f18;clear hρ hp;unfold OpRun;go_simp;exact hR _ _ (Below.refl _ _) ⟨a8,c8,rfl,hn8⟩)
  case o8=>(refine oQ rfl ?_;intro ρ w1 R hcon hfn hρ hb hp hR;have f18:=hp 6 18 rfl rfl;obtain ⟨a8,c8,b8,d8,e18,hn8,hm8⟩:=f18;clear hρ hp;unfold OpRun;go_simp;exact hR _ _ (Below.refl _ _) ⟨b8,d8,rfl,hm8⟩)
  case o9=>(refine oQ rfl ?_;intro ρ w1 R hcon hfn hρ hb hp hR;have f25:=hp 7 25 rfl rfl;clear hρ hp;unfold OpRun;go_simp;exact hR _ _ (Below.refl _ _) f25)
  case o10=>(refine oQ rfl ?_;intro ρ w1 R hcon hfn hρ hb hp hR;have f26:=hp 8 26 rfl rfl;clear hρ hp;unfold OpRun;go_simp;exact hR _ _ (Below.refl _ _) f26)
  case after=>
   intro u wn hb hf
   have f7:=hf 9 7 (by omega) rfl
   have f8:=hf 10 8 (by omega) rfl
   clear hf
   simp only [putAll,Act.put,List.setIfInBounds_toArray,List.set_cons_zero,List.set_cons_succ,List.drop_succ_cons,List.drop_zero,List.drop_nil]
   obtain ⟨a7,c7,e7,hN7⟩:=f7
   obtain ⟨a8,c8,e8,hN8⟩:=f8
   rw [e7,e8]
   have zR2:=zR1.below hb
   have yb2:=below_trans yb1 hb
   have hM5:=hN5.below hb
   clear zA1 zR1 yb1 hb e7 e8 O1 hN5
   by_cases hz:r1=0
   ·have g1: ¬0<(limbs r1).length:=by rw [hz];decide
    have HZ:=hid (show RR=(q0,q1) by rw [HX.out,if_pos hz])
    clear hz HX
    obtain ⟨k0,k1,f0,f1,-⟩:=id zR2
    go_wp2_with fail
    refine bodyPost_ret (by simp [results,Tryz.results119,go_sem,k0,k1];try rfl) rfl ?_
    rw [HZ.out]
    exact ⟨_,rfl,⟨_,_,_,_,rfl,hM5.put2 zR2 sl_no sl_no _ _,hN7.put2 zR2 sl_no sl_no _ _⟩,below_put2 yb2 (by omega) _ _⟩
   ·have hl:0<(limbs r1).length:=(digs_len_pos 4294967296 (by omega) r1).2 (by omega)
    have HZ:=hid (show RR=(q0,q1+1) by rw [HX.out,if_neg hz])
    clear hz HX
    go_upto_region 5 with (first
     |(go_at_call 66;(with_reducible refine (OF.out _).mono ?_);rintro en w3 ⟨b3,rfl,hN3,hb3⟩)
     |(go_at_call 70;(with_reducible refine (PL.out _ _ _ _ _ (hN7.below hb3) hN3).mono ?_);rintro en w4 ⟨b4,rfl,hN4,hb4⟩))
    have yb4:=below_trans (below_trans yb2 hb3) hb4
    have zR4:=(zR2.below hb3).below hb4
    have hM4:=(hM5.below hb3).below hb4
    obtain ⟨k0,k1,f0,f1,-⟩:=id zR4
    go_wp2_with fail
    refine bodyPost_ret (by simp [results,Tryz.results119,go_sem,k0,k1];try rfl) rfl ?_
    rw [HZ.out]
    exact ⟨_,rfl,⟨_,_,_,_,rfl,hM4.put2 zR4 sl_no sl_no _ _,hN4.put2 zR4 sl_no sl_no _ _⟩,below_put2 yb4 (by omega) _ _⟩
end Go.Proofs.YtehhegbkahnhgaaGreatDoor
namespace Go.Ulp
open Go.RowKit
theorem limbs_le_bits (M n:Nat):(limbs M).length≤n↔M<2^(32*n):=by
 have h:=digs_len_le 4294967296 (by omega) M n
 rw [Nat.pow_mul];exact h
def DV (t:TypeId) (w:World) (g:Nat) (D:Dy):Prop:= ∃am cm,QL t w g (decide (D.1<0)) (.slice am (limbs D.1.natAbs).length cm) D.2∧Ns .u32 w am cm (limbs D.1.natAbs)
theorem DV.below {t:TypeId} {w w':World} {g:Nat} {D:Dy} (h:DV t w g D) (hb:Below w.heap.size w w'):DV t w' g D:=by
 obtain ⟨am,cm,h1,h2⟩:=h;exact ⟨am,cm,h1.below hb,h2.below hb⟩
theorem QL.put {t:TypeId} {w:World} {g:Nat} {n:Bool} {v:Value} {k:Int} (h:QL t w g n v k) (n':Bool) (v':Value) (k':Int):
 QL t (((w.setCell ⟨g,0,none⟩ (.bool n')).setCell ⟨g,1,none⟩ v').setCell ⟨g,2,none⟩ (.int .i64 k')) g n' v' k':=by
 have h1:=(h.set0D n').set1D v'
 refine ⟨⟨(cell_set_ne (by omega)).trans h1.1.1,(cell_set_ne (by omega)).trans h1.1.2.1,?_,?_,?_⟩,?_,?_⟩
 ·rw [frozen_setCell];exact h1.1.2.2.1
 ·rw [frozen_setCell];exact h1.1.2.2.2.1
 ·exact h1.1.2.2.2.2.setCell _ _
 ·exact World.cell?_setCell_same _ _ _ ((cell_set_ne (by omega)).trans ((cell_set_ne (by omega)).trans h.2.1))
 ·rw [frozen_setCell];exact h1.2.2
theorem DV.put {t:TypeId} {w:World} {g:Nat} {n:Bool} {v:Value} {k:Int} {D:Dy} {am:Option Addr} {cm:Nat} (h:QL t w g n v k) (hN:Ns .u32 w am cm (limbs D.1.natAbs)) (hv: ∀x,v≠ .int .u32 x):
 DV t (((w.setCell ⟨g,0,none⟩ (.bool (decide (D.1<0)))).setCell ⟨g,1,none⟩ (.slice am (limbs D.1.natAbs).length cm)).setCell ⟨g,2,none⟩ (.int .i64 D.2)) g D:=
 ⟨am,cm,h.put _ _ _,hN.set3 h hv _ _ _⟩
def Fact.q0 (B:Nat) (t:TypeId):Fact:=⟨fun v w=> ∃g,v=.pointer (some ⟨g,0,none⟩)∧B≤g∧QL t w g false (.slice none 0 0) 0,fun _ _ _ h hb=>by
 obtain ⟨g,h1,h2,h3⟩:=h;exact ⟨g,h1,h2,h3.below hb⟩⟩
theorem QL.far3 {t:TypeId} {w:World} {g:Nat} {n:Bool} {v:Value} {k:Int} (h:QL t w g n v k) {b:Nat} (hne:g≠b) (u0 u1 u2:Value):
 QL t (((w.setCell ⟨b,0,none⟩ u0).setCell ⟨b,1,none⟩ u1).setCell ⟨b,2,none⟩ u2) g n v k:=((h.farD _ _ hne).farD _ _ hne).farD _ _ hne
theorem Nz.set3Q {t e:TypeId} {w:World} {ao:Option Addr} {cap:Nat} {L:List Nat} (h:Nz e w ao cap L) {g:Nat} {n:Bool} {v:Value} {k:Int} (z:QL t w g n v k) (hne:t≠e) (u0 u1 u2:Value):
 Nz e (((w.setCell ⟨g,0,none⟩ u0).setCell ⟨g,1,none⟩ u1).setCell ⟨g,2,none⟩ u2) ao cap L:=
 ((h.setCell z.1.2.2.2.2 hne _ _).setCell (z.1.2.2.2.2.setCell _ _) hne _ _).setCell ((z.1.2.2.2.2.setCell _ _).setCell _ _) hne _ _
theorem Below.put3 {B:Nat} {w w':World} (h:Below B w w') {g:Nat} (hg:B≤g) (u0 u1 u2:Value):Below B w (((w'.setCell ⟨g,0,none⟩ u0).setCell ⟨g,1,none⟩ u1).setCell ⟨g,2,none⟩ u2):=
 ((h.setCell hg _).setCell hg _).setCell hg _
theorem tw_lt {n A:Nat} (h0:0<n) (h:n<2^A):tw n<A:=by
 have h1:=(od_tw n h0).1
 have h2:=od_pos n h0
 have h3:2^tw n≤n:=by
  conv=>rhs;rw [←h1]
  exact Nat.le_mul_of_pos_left _ h2
 exact (Nat.pow_lt_pow_iff_right (a:=2) (by omega)).1 (Nat.lt_of_le_of_lt h3 h)
theorem nrm_bd (y e:Int) (A:Nat) (h:y.natAbs<2^A):(nrm y e).1.natAbs<2^A∧((nrm y e).1=0∧(nrm y e).2=0∨e≤(nrm y e).2∧(nrm y e).2<e+A):=by
 by_cases h0:y=0
 ·subst h0;exact ⟨h,.inl ⟨rfl,rfl⟩⟩
 ·refine ⟨by rw [nrm_abs y e h0];exact Nat.lt_of_le_of_lt (od_le _) h,.inr ?_⟩
  have h1:=tw_lt (n:=y.natAbs) (by omega) h
  have h2:(nrm y e).2=e+tw y.natAbs:=by unfold nrm;rw [if_neg h0]
  rw [h2];omega
theorem fv_bd (x:Int) (h0:0≤x) (h1:x<18446744073709551616):bndB (fv x)=true∧((fv x).1.natAbs<2^53∧ -1074≤(fv x).2∧(fv x).2≤1024):=by
 have hm:=mantOf_bd x
 have he:=dexp_bd x
 have hA:(sg (negB x) (mantOf x)).natAbs<2^53:=by rw [sg_abs];omega
 obtain ⟨k1,k2⟩:=nrm_bd (sg (negB x) (mantOf x)) (dexp x) 53 hA
 have k3:(fv x).1.natAbs<2^53∧ -1074≤(fv x).2∧(fv x).2≤1024:=⟨k1,by unfold fv;omega,by unfold fv;omega⟩
 refine ⟨?_,k3⟩
 have hl:(limbs (fv x).1.natAbs).length≤2:=(limbs_le_bits _ 2).2 (Nat.lt_of_lt_of_le k3.1 (Nat.pow_le_pow_right (by omega) (by omega)))
 unfold bndB dyB
 exact decide_eq_true ⟨by omega,by omega,by omega⟩
theorem len_le {M k K:Nat} (h:M≤2^k) (hk:k<32*K):(limbs M).length≤K:=
 (limbs_le_bits M K).2 (Nat.lt_of_le_of_lt h (Nat.pow_lt_pow_right (by omega) hk))
def PV (t:TypeId) (w:World) (g:Nat) (x:PP):Prop:=
 ∃a b c d,P2 t w g (.slice a (limbs x.1).length c) (.slice b (limbs x.2).length d)∧Ns .u32 w a c (limbs x.1)∧Ns .u32 w b d (limbs x.2)
theorem PV.below {t:TypeId} {w w':World} {g:Nat} {x:PP} (h:PV t w g x) (hb:Below w.heap.size w w'):PV t w' g x:=by
 obtain ⟨a,b,c,d,h1,h2,h3⟩:=h;exact ⟨a,b,c,d,h1.below hb,h2.below hb,h3.below hb⟩
theorem PV.lt {t:TypeId} {w:World} {g:Nat} {x:PP} (h:PV t w g x):g<w.heap.size:=by
 obtain ⟨a,b,c,d,h1,-⟩:=h;exact h1.lt
theorem PV.pr {t:TypeId} {w:World} {g:Nat} {x:PP} (h:PV t w g x): ∃v0 v1,P2 t w g v0 v1∧PR w x (.agg #[v0,v1]):=by
 obtain ⟨a,b,c,d,h1,h2,h3⟩:=h;exact ⟨_,_,h1,a,b,c,d,rfl,h2,h3⟩
theorem PV.far {t t':TypeId} {w:World} {g g':Nat} {x:PP} {v0 v1:Value} (h:PV t w g x) (z:P2 t' w g' v0 v1) (hne:g≠g') (k0: ∀x,v0≠ .int .u32 x) (k1: ∀x,v1≠ .int .u32 x) (u0 u1:Value):
 PV t ((w.setCell ⟨g',0,none⟩ u0).setCell ⟨g',1,none⟩ u1) g x:=by
 obtain ⟨a,b,c,d,h1,h2,h3⟩:=h
 exact ⟨a,b,c,d,(h1.far _ _ hne).far _ _ hne,h2.put2 z k0 k1 _ _,h3.put2 z k0 k1 _ _⟩
theorem PV.put {t:TypeId} {w:World} {g:Nat} {x y:PP} {a b:Option Addr} {c d:Nat} (h:PV t w g x) (h2:Ns .u32 w a c (limbs y.1)) (h3:Ns .u32 w b d (limbs y.2)):
 PV t ((w.setCell ⟨g,0,none⟩ (.slice a (limbs y.1).length c)).setCell ⟨g,1,none⟩ (.slice b (limbs y.2).length d)) g y:=by
 obtain ⟨a',b',c',d',z,-,-⟩:=h
 exact ⟨a,b,c,d,z.put _ _,h2.put2 z sl_no sl_no _ _,h3.put2 z sl_no sl_no _ _⟩
theorem PV.made {t:TypeId} {w:World} {x:PP} {a b:Option Addr} {c d:Nat} {g:Nat} (hg:g=w.heap.size) (h2:Ns .u32 w a c (limbs x.1)) (h3:Ns .u32 w b d (limbs x.2)):PV t (w.alloc (.cells #[.slice a (limbs x.1).length c,.slice b (limbs x.2).length d] t)) g x:=
 ⟨a,b,c,d,P2.made hg,h2.below (below_alloc _ _),h3.below (below_alloc _ _)⟩
end Go.Ulp
namespace Go.Proofs.YtehhegbkahnhgaaGreatDoor
open Go.RowKit Go.Ulp
set_option maxHeartbeats 4000000
set_option maxRecDepth 100000
theorem dyads_any (x:PP) (p:Nat) (v:Value) (w:World) (hv:PR w x v) (l1:(limbs x.1).length≤4294967296) (l2:(limbs x.2).length≤4294967296) (hp:p≤1099511627776) (hT:Tab 0 w):
 Calls Tryz.prog 93 #[v,.int .i64 (p:Int)] w (RetVD2 w (nrm (x.1:Int) (-(p:Int))) (nrm (x.2:Int) (-(p:Int)))):=by
 obtain ⟨l,h⟩:=x
 obtain ⟨a,b,c,d,rfl,h0,h1⟩:=hv
 simp only at *
 have N0:=hid (fun w k t=>normD_any false a c l (-(p:Int)) w k l1 (by omega) t)
 have N1:=hid (fun w k t=>normD_any false b d h (-(p:Int)) w k l2 (by omega) t)
 rw [show ∀M:Nat,sg false (M:Int)=(M:Int) from fun _=>rfl] at N0 N1
 have wN:IntKind.i64.wrap (-(p:Int))= -(p:Int):=IntWalk.i64_in _ (by omega)
 generalize nrm (l:Int) (-(p:Int))=D at *
 generalize nrm (h:Int) (-(p:Int))=E at *
 have yb0:Below w.heap.size w (((w.alloc (.cells #[.slice a (limbs l).length c,.slice b (limbs h).length d] 100)).alloc (.cells #[.bool false,.slice none 0 0,.int .i64 0] 38)).alloc (.cells #[.bool false,.slice none 0 0,.int .i64 0] 38)):=by (repeat' first|(with_reducible first|assumption|apply bR|apply bA|apply bN|apply bD|apply bL|apply bS)|refine bT ?_ (by assumption)|go_size)
 have zA:P2 100 (((w.alloc (.cells #[.slice a (limbs l).length c,.slice b (limbs h).length d] 100)).alloc (.cells #[.bool false,.slice none 0 0,.int .i64 0] 38)).alloc (.cells #[.bool false,.slice none 0 0,.int .i64 0] 38)) w.heap.size (.slice a (limbs l).length c) (.slice b (limbs h).length d):=((P2.made rfl).below (below_alloc _ _)).below (below_alloc _ _)
 have zR:QL 38 (((w.alloc (.cells #[.slice a (limbs l).length c,.slice b (limbs h).length d] 100)).alloc (.cells #[.bool false,.slice none 0 0,.int .i64 0] 38)).alloc (.cells #[.bool false,.slice none 0 0,.int .i64 0] 38)) (w.heap.size+1) false (.slice none 0 0) 0:=(QL.made (by simp)).alloc _
 have zS:QL 38 (((w.alloc (.cells #[.slice a (limbs l).length c,.slice b (limbs h).length d] 100)).alloc (.cells #[.bool false,.slice none 0 0,.int .i64 0] 38)).alloc (.cells #[.bool false,.slice none 0 0,.int .i64 0] 38)) (w.heap.size+1+1) false (.slice none 0 0) 0:=QL.made (by simp)
 have H0:=hid h0
 have H1:=hid h1
 have HT:=hid hT
 clear h0 h1 hT l1 l2
 go_enter Tryz.func93,Tryz.ntmps93
 go_upto_region 1 with fail
 refine wp_region_grow 10 [6,7,8,9,10,11,12,13,14,15] [Fact.is (.pointer (some ⟨w.heap.size,0,none⟩)),Fact.is (.slice a (limbs l).length c),Fact.is (.int .i64 (p:Int)),Fact.is (.int .i64 (-(p:Int))),Fact.vd D,Fact.is (.pointer (some ⟨w.heap.size,1,none⟩)),Fact.is (.slice b (limbs h).length d),Fact.is (.int .i64 (p:Int)),Fact.is (.int .i64 (-(p:Int))),Fact.vd E] (by kernel_rfl) (by kernel_rfl) ⟨?o0,?o1,?o2,?o3,?o4,?o5,?o6,?o7,?o8,?o9,trivial⟩ ?after
 case o0=>(refine oQ rfl ?_;intro ρ w1 R hcon hfn hρ hb hp hR;have e2:ρ (.tmp 2)=.pointer (some ⟨w.heap.size,0,none⟩):=hρ.tmp 2 rfl;clear hρ hp;unfold OpRun;go_simp;exact hR _ _ (Below.refl _ _) rfl)
 case o1=>(refine oQ rfl ?_;intro ρ w1 R hcon hfn hρ hb hp hR;have e6:ρ (.tmp 6)=_:=hp 0 6 rfl rfl;obtain ⟨j0,j1,-⟩:=zA.below hb;clear hρ hp;unfold OpRun;go_simp;exact hR _ _ (Below.refl _ _) rfl)
 case o2=>(refine oQ rfl ?_;intro ρ w1 R hcon hfn hρ hb hp hR;have e1:ρ (.tmp 1)=.int .i64 (p:Int):=hρ.tmp 1 rfl;clear hρ hp;unfold OpRun;go_simp;exact hR _ _ (Below.refl _ _) rfl)
 case o3=>(refine oQ rfl ?_;intro ρ w1 R hcon hfn hρ hb hp hR;have e8:ρ (.tmp 8)=_:=hp 2 8 rfl rfl;clear hρ hp;unfold OpRun;go_simp;exact hR _ _ (Below.refl _ _) rfl)
 case o4=>(refine oQ rfl ?_;intro ρ w1 R hcon hfn hρ hb hp hR;have e7:ρ (.tmp 7)=_:=hp 1 7 rfl rfl;have e9:ρ (.tmp 9)=_:=hp 3 9 rfl rfl;clear hρ hp;unfold OpRun;go_simp;(refine (N0.out _ (H0.out.below (below_trans yb0 hb)) (HT.out.below (below_trans yb0 hb))).mono ?_;rintro e wn ⟨v9,rfl,hv9,hbn⟩;exact ⟨_,rfl,hR _ _ hbn hv9⟩))
 case o5=>(refine oQ rfl ?_;intro ρ w1 R hcon hfn hρ hb hp hR;have e2:ρ (.tmp 2)=.pointer (some ⟨w.heap.size,0,none⟩):=hρ.tmp 2 rfl;clear hρ hp;unfold OpRun;go_simp;exact hR _ _ (Below.refl _ _) rfl)
 case o6=>(refine oQ rfl ?_;intro ρ w1 R hcon hfn hρ hb hp hR;have e11:ρ (.tmp 11)=_:=hp 5 11 rfl rfl;obtain ⟨j0,j1,-⟩:=zA.below hb;clear hρ hp;unfold OpRun;go_simp;exact hR _ _ (Below.refl _ _) rfl)
 case o7=>(refine oQ rfl ?_;intro ρ w1 R hcon hfn hρ hb hp hR;have e1:ρ (.tmp 1)=.int .i64 (p:Int):=hρ.tmp 1 rfl;clear hρ hp;unfold OpRun;go_simp;exact hR _ _ (Below.refl _ _) rfl)
 case o8=>(refine oQ rfl ?_;intro ρ w1 R hcon hfn hρ hb hp hR;have e13:ρ (.tmp 13)=_:=hp 7 13 rfl rfl;clear hρ hp;unfold OpRun;go_simp;exact hR _ _ (Below.refl _ _) rfl)
 case o9=>(refine oQ rfl ?_;intro ρ w1 R hcon hfn hρ hb hp hR;have e12:ρ (.tmp 12)=_:=hp 6 12 rfl rfl;have e14:ρ (.tmp 14)=_:=hp 8 14 rfl rfl;clear hρ hp;unfold OpRun;go_simp;(refine (N1.out _ (H1.out.below (below_trans yb0 hb)) (HT.out.below (below_trans yb0 hb))).mono ?_;rintro e wn ⟨v9,rfl,hv9,hbn⟩;exact ⟨_,rfl,hR _ _ hbn hv9⟩))
 case after=>
  intro u wn hb hf
  have f10:=hf 4 10 (by omega) rfl
  have f15:=hf 9 15 (by omega) rfl
  clear hf
  simp only [putAll,Act.put,List.setIfInBounds_toArray,List.set_cons_zero,List.set_cons_succ,List.drop_succ_cons,List.drop_zero,List.drop_nil]
  obtain ⟨a3,c3,e10,hN3⟩:=f10
  obtain ⟨a4,c4,e15,hN4⟩:=f15
  rw [e10,e15]
  have zR2:=zR.below hb
  have zS2:=zS.below hb
  have yb2:=below_trans yb0 hb
  clear zA zR zS yb0 hb e10 e15
  obtain ⟨⟨k0,k1,f0,f1,hs2⟩,k2,f2⟩:=id zR2
  obtain ⟨⟨m0,m1,g0,g1,hs3⟩,m2,g2⟩:=id zS2
  go_wp2_with fail
  refine bodyPost_ret (by simp [results,Tryz.results93,go_sem,k0,k1,k2,m0,m1,m2];try rfl) rfl ?_
  have zS3:=zS2.far3 (b:=w.heap.size+1) (by omega) (.bool (decide (D.1<0))) (.slice a3 (limbs D.1.natAbs).length c3) (.int .i64 D.2)
  exact ⟨_,_,rfl,⟨a3,c3,rfl,(hN3.set3 zR2 (by intro x h;cases h) _ _ _).set3 zS3 (by intro x h;cases h) _ _ _⟩,⟨a4,c4,rfl,(hN4.set3 zR2 (by intro x h;cases h) _ _ _).set3 zS3 (by intro x h;cases h) _ _ _⟩,Go.Ulp.Below.put3 (Go.Ulp.Below.put3 yb2 (by omega) _ _ _) (by omega) _ _ _⟩
end Go.Proofs.YtehhegbkahnhgaaGreatDoor
