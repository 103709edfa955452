/- ExpoLogs: what the proof leans on, part 21 (Sg2 Se5). -/
import Derived.Test.YtehhegbkahnhgaaGreatDoorKExpoLogs11
import Derived.Test.YtehhegbkahnhgaaGreatDoorKExpoLogs19
import Derived.Test.YtehhegbkahnhgaaGreatDoorKExpoLogs20
set_option linter.unusedVariables false
set_option linter.unusedSimpArgs false
namespace Go.Ulp
open Go.RowKit
def lgC (m:Nat):Bool:=decide (2^(bl m-1)*4<m*3)
def lgS (m:Nat):Nat:=if lgC m=true then bl m else bl m-1
def lgN (m:Nat):Nat:=if lgC m=true then 2^lgS m-m else m-2^lgS m
theorem lg_ok (m:Nat) (hm:0<m):(if lgC m=true then m<2^lgS m∧2^lgS m≤3*m∧lgN m=2^lgS m-m else 2^lgS m≤m∧m≤3*2^lgS m∧lgN m=m-2^lgS m):=by
 have a:=pow_bl m hm
 have b:=lt_bl m
 have c:=(bl_pos m).2 hm
 have e:2^bl m=2^(bl m-1)*2:=by rw [←Nat.pow_succ];congr 1;omega
 cases h:lgC m
 ·have s1:lgS m=bl m-1:=by unfold lgS;rw [h,if_neg (by simp)]
  have n1:lgN m=m-2^lgS m:=by unfold lgN;rw [h,if_neg (by simp)]
  have h2: ¬2^(bl m-1)*4<m*3:=of_decide_eq_false h
  rw [if_neg (by simp),n1,s1]
  exact ⟨a,by omega,rfl⟩
 ·have s1:lgS m=bl m:=by unfold lgS;rw [h,if_pos rfl]
  have n1:lgN m=2^lgS m-m:=by unfold lgN;rw [h,if_pos rfl]
  have h2:2^(bl m-1)*4<m*3:=of_decide_eq_true h
  rw [if_pos rfl,n1,s1]
  exact ⟨b,by omega,rfl⟩
theorem lg_neg (m:Nat) (hm:0<m):decide (m<2^lgS m)=lgC m:=by
 have h:=lg_ok m hm
 cases hc:lgC m
 ·rw [hc] at h
  simp only [Bool.false_eq_true,if_false] at h
  exact decide_eq_false (by omega)
 ·rw [hc] at h
  simp only [if_true] at h
  exact decide_eq_true (by omega)
def Fact.d0 (B:Nat) (t:TypeId):Fact:=⟨fun v w=> ∃g,v=.pointer (some ⟨g,0,none⟩)∧B≤g∧QL t w g false (.slice none 0 0) 0,fun _ _ _ h hb=>by
 obtain ⟨g,h1,h2,h3⟩:=h;exact ⟨g,h1,h2,h3.below hb⟩⟩
def Fact.vd2 (D E:Dy):Fact:=⟨fun v w=> ∃a b,v=.tuple #[a,b]∧VD w D a∧VD w E b,fun _ _ _ h hb=>by
 obtain ⟨a,b,h1,h2,h3⟩:=h;exact ⟨a,b,h1,h2.below hb,h3.below hb⟩⟩
theorem DV.far3 {t t':TypeId} {w:World} {g g':Nat} {D:Dy} {n:Bool} {v:Value} {k:Int} (h:DV t w g D) (z:QL t' w g' n v k) (hne:g≠g') (hv: ∀x,v≠ .int .u32 x) (u0 u1 u2:Value):
 DV t (((w.setCell ⟨g',0,none⟩ u0).setCell ⟨g',1,none⟩ u1).setCell ⟨g',2,none⟩ u2) g D:=by
 obtain ⟨a,c,h1,h2⟩:=h
 exact ⟨a,c,h1.far3 hne _ _ _,h2.set3 z hv _ _ _⟩
theorem dv_store2 {t:TypeId} {B:Nat} {w wn:World} {g g':Nat} {D E:Dy} {a b:Option Addr} {c d:Nat} (hb:Below B w wn) (hg:B≤g) (hg':B≤g') (hne:g≠g') (z:QL t wn g false (.slice none 0 0) 0) (z':QL t wn g' false (.slice none 0 0) 0) (n:Ns .u32 wn a c (limbs D.1.natAbs)) (n':Ns .u32 wn b d (limbs E.1.natAbs)):
 Below B w ((((((wn.setCell ⟨g,0,none⟩ (.bool (decide (D.1<0)))).setCell ⟨g,1,none⟩ (.slice a (limbs D.1.natAbs).length c)).setCell ⟨g,2,none⟩ (.int .i64 D.2)).setCell ⟨g',0,none⟩ (.bool (decide (E.1<0)))).setCell ⟨g',1,none⟩ (.slice b (limbs E.1.natAbs).length d)).setCell ⟨g',2,none⟩ (.int .i64 E.2))
 ∧DV t ((((((wn.setCell ⟨g,0,none⟩ (.bool (decide (D.1<0)))).setCell ⟨g,1,none⟩ (.slice a (limbs D.1.natAbs).length c)).setCell ⟨g,2,none⟩ (.int .i64 D.2)).setCell ⟨g',0,none⟩ (.bool (decide (E.1<0)))).setCell ⟨g',1,none⟩ (.slice b (limbs E.1.natAbs).length d)).setCell ⟨g',2,none⟩ (.int .i64 E.2)) g D
 ∧DV t ((((((wn.setCell ⟨g,0,none⟩ (.bool (decide (D.1<0)))).setCell ⟨g,1,none⟩ (.slice a (limbs D.1.natAbs).length c)).setCell ⟨g,2,none⟩ (.int .i64 D.2)).setCell ⟨g',0,none⟩ (.bool (decide (E.1<0)))).setCell ⟨g',1,none⟩ (.slice b (limbs E.1.natAbs).length d)).setCell ⟨g',2,none⟩ (.int .i64 E.2)) g' E:=by
 have z2:=z'.far3 (b:=g) (Ne.symm hne) (.bool (decide (D.1<0))) (.slice a (limbs D.1.natAbs).length c) (.int .i64 D.2)
 refine ⟨Below.put3 (Below.put3 hb hg _ _ _) hg' _ _ _,(DV.put z n sl_no).far3 z2 hne sl_no _ _ _,DV.put z2 (n'.set3 z sl_no _ _ _) sl_no⟩
theorem sgP_abs (x:PP) (neg:Bool) (B:Nat) (h1:x.1<B) (h2:x.2<B):(sgP x neg).1.natAbs<B∧(sgP x neg).2.natAbs<B:=by
 unfold sgP
 cases neg
 ·rw [if_neg (by simp)];exact ⟨by simpa using h1,by simpa using h2⟩
 ·rw [if_pos rfl];exact ⟨by simpa using h2,by simpa using h1⟩
theorem nrm_fit (y:Int) (p:Nat) (hp:p≤34359738368) (h:y.natAbs<2^(p+60)):(limbs (nrm y (-(p:Int))).1.natAbs).length≤1100000000∧(-35000000000≤(nrm y (-(p:Int))).2∧(nrm y (-(p:Int))).2≤35000000000):=by
 obtain ⟨h1,h2⟩:=nrm_bd y (-(p:Int)) (p+60) h
 exact ⟨len_le (Nat.le_of_lt h1) (by omega),by omega⟩
theorem addD_levl (x y g:Int):addD (nrm x g) (nrm y g)=nrm (x+y) g:=by
 have h:=nrm_add x g y g g (.inl (Int.le_refl _)) (.inl (Int.le_refl _))
 rw [sc_self,sc_self] at h
 exact h.symm
end Go.Ulp
namespace Go.Proofs.YtehhegbkahnhgaaGreatDoor
open Go.RowKit Go.Ulp
set_option maxHeartbeats 4000000
set_option maxRecDepth 100000
theorem logBounds_any (m:Nat) (e:Int) (p kA kT:Nat) (ng:Bool) (a:Option Addr) (c:Nat) (w:World) (h0:Ns .u32 w a c (limbs m)) (hm:0<m) (hmb:m<2^1280) (he: -3000≤e∧e≤3000) (hA:AtOK (lgN m) (m+2^lgS m) p kA) (hT3:AtOK 1 3 p kT) (hT:Tab 0 w):
 Calls Tryz.prog 64 #[.agg #[.bool ng,.slice a (limbs m).length c,.int .i64 e],.int .i64 (p:Int)] w (RetVD2 w (nrm (addI (sgP (atP (frB (lgN m) (m+2^lgS m) (2^p)) p kA) (lgC m)) (sgP (mlP (e+lgS m).natAbs (atP (frB 1 3 (2^p)) p kT)) (decide (e+lgS m<0)))).1 (-(p:Int))) (nrm (addI (sgP (atP (frB (lgN m) (m+2^lgS m) (2^p)) p kA) (lgC m)) (sgP (mlP (e+lgS m).natAbs (atP (frB 1 3 (2^p)) p kT)) (decide (e+lgS m<0)))).2 (-(p:Int)))):=by
 obtain ⟨z0,hz0⟩: ∃z,z=1280:=⟨_,rfl⟩
 rw [←hz0] at hmb
 have lm:(limbs m).length≤41:=len_le (Nat.le_of_lt hmb) (by omega)
 have hbl:bl m≤z0:=(bl_le m z0).2 hmb
 have hb0:=(bl_pos m).2 hm
 have H0:=hid h0
 have HT:=hid hT
 have LN:=hid (fun w h=>natLen_any a c m w h (by omega))
 have OF1:=hid (show ∀w,Calls Tryz.prog 66 #[.int .u64 1] w fun e w'=>RetN w 1 e w' from fun w=>natOf_any 1 (by omega) w)
 have OF3:=hid (show ∀w,Calls Tryz.prog 66 #[.int .u64 3] w fun e w'=>RetN w 3 e w' from fun w=>natOf_any 3 (by omega) w)
 obtain ⟨s0,hs0⟩: ∃s,s=bl m-1:=⟨_,rfl⟩
 have LF1:=hid (show ∀a c w,Ns .u32 w a c (limbs 1)→Calls Tryz.prog 69 #[.slice a (limbs 1).length c,.int .i64 (s0:Int)] w fun e w'=>RetN w (2^s0) e w' from fun a c w h=>by
  have h:=leftN_any a c 1 s0 w h (by decide) (by omega)
  rwa [Nat.one_mul] at h)
 have p1:=hA.p1
 have p0:=hA.p0
 have hNM:=lg_ok m hm
 have lPS:(limbs (2^lgS m)).length≤42:=len_le (k:=z0+1) (Nat.pow_le_pow_right (by omega) (by unfold lgS;split<;>omega)) (by omega)
 have PLs:=hid (fun a' b' c' d' w h k=>plus_any a' b' c' d' m (2^lgS m) w h k (by omega) (by omega))
 have AT1:=hid (fun a' b' c' d' w h k=>sAtanh_any (lgN m) (m+2^lgS m) p kA a' b' c' d' w h k hA)
 have AT3:=hid (fun a' b' c' d' w h k=>sAtanh_any 1 3 p kT a' b' c' d' w h k hT3)
 have SG1:=hid (fun v w h t=>signed_any (atP (frB (lgN m) (m+2^lgS m) (2^p)) p kA) (lgC m) p v w h (len_le hA.res.1 (by omega)) (len_le hA.res.2 (by omega)) (by omega) t)
 have MN1:=hid (fun (hh:m≤2^lgS m) a' b' c' d' w h k=>minus_any a' b' c' d' (2^lgS m) m w h k (by omega) hh)
 have MN2:=hid (fun (hh:2^lgS m≤m) a' b' c' d' w h k=>minus_any a' b' c' d' m (2^lgS m) w h k (by omega) hh)
 have HNM:=hid hNM
 have HA:=hid hA
 have HA3:=hid hT3
 clear hA hT3 hNM lPS
 obtain ⟨P,hP⟩: ∃P,P=2^s0:=⟨_,rfl⟩
 rw [←hP] at LF1
 have lP:(limbs P).length≤41:=len_le (Nat.le_of_eq hP) (by omega)
 have lP2:(limbs (P*2)).length≤41:=len_le (k:=s0+1) (by rw [hP,Nat.pow_succ];exact Nat.le_refl _) (by omega)
 have LF2:=hid (show ∀a c w,Ns .u32 w a c (limbs P)→Calls Tryz.prog 69 #[.slice a (limbs P).length c,.int .i64 2] w fun e w'=>RetN w (P*4) e w' from fun a c w h=>leftN_any a c P 2 w h (by omega) (by omega))
 have LF3:=hid (show ∀a c w,Ns .u32 w a c (limbs P)→Calls Tryz.prog 69 #[.slice a (limbs P).length c,.int .i64 1] w fun e w'=>RetN w (P*2) e w' from fun a c w h=>leftN_any a c P 1 w h (by omega) (by omega))
 have TM:=hid (fun b d w h k=>times_any a b c d m 3 w h k (by omega) (by decide))
 have CM:=hid (fun (a:Option Addr) (c:Nat) (b:Option Addr) (d H G:Nat) (w:World) (h:Ns .u32 w a c (limbs H)) (k:Ns .u32 w b d (limbs G))=>(compare_any a b c d H G w h k).mono (fun en w' hh=>(⟨hh.1,by obtain ⟨nq,hq⟩:=hh.2;rw [hq];exact below_drewN (Below.refl _ _) _⟩:en=.returned (.int .i64 (cmpI (H:Int) (G:Int)))∧Below w.heap.size w w')))
 obtain ⟨κ,hκ⟩: ∃κ,κ=cmpI ((m*3:Nat):Int) ((P*4:Nat):Int):=⟨_,rfl⟩
 have CM1:=hid (fun a c b d w h k=>CM.out a c b d (m*3) (P*4) w h k)
 rw [←hκ] at CM1
 have hC:decide (0<κ)=lgC m:=by
  rw [hκ]
  unfold lgC
  rw [←hs0,←hP]
  apply decide_eq_decide.2
  unfold cmpI
  constructor
  ·intro h
   split at h
   ·omega
   ·split at h<;>omega
  ·intro h
   rw [if_neg (by omega),if_pos (by omega)];omega
 have hS:2^lgS m=if lgC m=true then P*2 else P:=by
  unfold lgS
  cases lgC m
  ·rw [if_neg (by simp),if_neg (by simp),hP,hs0]
  ·rw [if_pos rfl,if_pos rfl,hP,←Nat.pow_succ];congr 1;omega
 have hS2:((lgS m:Nat):Int)=if lgC m=true then (s0:Int)+1 else (s0:Int):=by
  unfold lgS
  cases lgC m
  ·rw [if_neg (by simp),if_neg (by simp)];omega
  ·rw [if_pos rfl,if_pos rfl];omega
 have HC:=hid hC
 have HSS:=hid hS
 have HS2:=hid hS2
 have HP:=hid hP
 clear hκ hC hS hS2 hP
 have ebl:((bl m:Nat):Int)=(s0:Int)+1:=by omega
 rw [ebl] at LN
 have w1:IntKind.i64.wrap ((s0:Int)+1-1)=(s0:Int):=by rw [IntWalk.i64_in _ (by omega)];omega
 have w1':IntKind.i64.wrap (s0:Int)=(s0:Int):=IntWalk.i64_in _ (by omega)
 have w4:IntKind.i64.wrap (e+(s0:Int))=e+(s0:Int):=IntWalk.i64_in _ (by omega)
 have w2:IntKind.i64.wrap (e+((s0:Int)+1))=e+((s0:Int)+1):=IntWalk.i64_in _ (by omega)
 have w3:IntKind.i64.wrap (e+((s0:Int)+1)-1)=e+(s0:Int):=by rw [IntWalk.i64_in _ (by omega)];omega
 have hsb:(s0:Int)≤1280:=by omega
 have HS0:=hid hs0
 clear hs0 ebl
 have zA:QL 38 (((w.alloc (.cells #[.bool ng,.slice a (limbs m).length c,.int .i64 e] 38)).alloc (.cells #[.bool false,.slice none 0 0,.int .i64 0] 38)).alloc (.cells #[.bool false,.slice none 0 0,.int .i64 0] 38)) w.heap.size ng (.slice a (limbs m).length c) e:=((QL.made rfl).alloc _).alloc _
 have zR:QL 38 (((w.alloc (.cells #[.bool ng,.slice a (limbs m).length c,.int .i64 e] 38)).alloc (.cells #[.bool false,.slice none 0 0,.int .i64 0] 38)).alloc (.cells #[.bool false,.slice none 0 0,.int .i64 0] 38)) (w.heap.size+1) false (.slice none 0 0) 0:=(QL.made (by simp)).alloc _
 have zS:QL 38 (((w.alloc (.cells #[.bool ng,.slice a (limbs m).length c,.int .i64 e] 38)).alloc (.cells #[.bool false,.slice none 0 0,.int .i64 0] 38)).alloc (.cells #[.bool false,.slice none 0 0,.int .i64 0] 38)) (w.heap.size+1+1) false (.slice none 0 0) 0:=QL.made (by simp)
 have yb0:Below w.heap.size w (((w.alloc (.cells #[.bool ng,.slice a (limbs m).length c,.int .i64 e] 38)).alloc (.cells #[.bool false,.slice none 0 0,.int .i64 0] 38)).alloc (.cells #[.bool false,.slice none 0 0,.int .i64 0] 38)):=by (repeat' first|(with_reducible first|assumption|apply bR|apply bA|apply bN|apply bD|apply bL|apply bS)|refine bT ?_ (by assumption)|go_size)
 have HMB:=hid hmb
 clear h0 hT hmb
 go_enter Tryz.func64,Tryz.ntmps64
 go_upto_region 1 with fail
 refine wp_wld9 (fun WW=>Below w.heap.size w WW∧QL 38 WW w.heap.size ng (.slice a (limbs m).length c) e∧QL 38 WW (w.heap.size+1) false (.slice none 0 0) 0∧QL 38 WW (w.heap.size+1+1) false (.slice none 0 0) 0) ⟨yb0,zA,zR,zS⟩ ?_
 clear zA zR zS yb0
 intro W1 ⟨y1,zA,zR,zS⟩
 obtain ⟨⟨j0,j1,-⟩,j2,-⟩:=id zA
 go_upto_region 3 with (first
  |(go_at_call 67;(with_reducible refine (LN.out _ (H0.out.below y1)).mono ?_);rintro en w2 ⟨rfl,rfl⟩)
  |(go_at_call 66;(with_reducible refine (OF1.out _).mono ?_);rintro en w3 ⟨b3,rfl,k3,hb3⟩)
  |(go_at_call 69;(with_reducible refine (LF1.out _ _ _ k3).mono ?_);rintro en w4 ⟨b4,rfl,k4,hb4⟩))
 have y4:=below_trans (below_trans y1 hb3) hb4
 have zA4:=(zA.below hb3).below hb4
 have zR4:=(zR.below hb3).below hb4
 have zS4:=(zS.below hb3).below hb4
 clear y1 zA zR zS hb3 hb4 j0 j1 j2 LN LF1 k3
 obtain ⟨⟨j0,j1,-⟩,j2,-⟩:=id zA4
 go_upto_region 4 with fail
 refine wp_region_grow 8 [29,30,31,32,33,34,35,36] [Fact.is (.pointer (some ⟨w.heap.size,1,none⟩)),Fact.is (.slice a (limbs m).length c),Fact.li 3,Fact.li (m*3),Fact.is (.slice b4 (limbs P).length (limbs P).length),Fact.li (P*4),Fact.is (.int .i64 κ),Fact.is (.bool (decide (0<κ)))] (by kernel_rfl) (by kernel_rfl) ⟨?o0,?o1,?o2,?o3,?o4,?o5,?o6,?o7,trivial⟩ ?after
 case o0=>(refine oQ rfl ?_;intro ρ w1 R hcon hfn hρ hb hp hR;have e2:ρ (.tmp 2)=.pointer (some ⟨w.heap.size,0,none⟩):=hρ.tmp 2 rfl;clear hρ hp;unfold OpRun;go_simp;exact hR _ _ (Below.refl _ _) rfl)
 case o1=>(refine oQ rfl ?_;intro ρ w1 R hcon hfn hρ hb hp hR;have e29:ρ (.tmp 29)=_:=hp 0 29 rfl rfl;obtain ⟨⟨j0,j1,-⟩,j2,-⟩:=zA4.below hb;clear hρ hp;unfold OpRun;go_simp;exact hR _ _ (Below.refl _ _) rfl)
 case o2=>(refine oQ rfl ?_;intro ρ w1 R hcon hfn hρ hb hp hR;clear hρ hp;unfold OpRun;go_simp;(refine (OF3.out _).mono ?_;rintro e wn ⟨a9,rfl,hn9,hbn⟩;exact ⟨_,rfl,hR _ _ hbn ⟨a9,_,rfl,hn9⟩⟩))
 case o3=>(refine oQ rfl ?_;intro ρ w1 R hcon hfn hρ hb hp hR;have e30:ρ (.tmp 30)=_:=hp 1 30 rfl rfl;have f31:=hp 2 31 rfl rfl;obtain ⟨a9,c9,e31,hn9⟩:=f31;clear hρ hp;unfold OpRun;go_simp;(skip;refine (TM.out _ _ _ (H0.out.below (below_trans y4 hb)) hn9).mono ?_;rintro e wn ⟨a8,rfl,hn8,hbn⟩;exact ⟨_,rfl,hR _ _ hbn ⟨a8,_,rfl,hn8⟩⟩))
 case o4=>(refine oQ rfl ?_;intro ρ w1 R hcon hfn hρ hb hp hR;have e7:ρ (.tmp 7)=.slice b4 (limbs P).length (limbs P).length:=hρ.tmp 7 rfl;clear hρ hp;unfold OpRun;go_simp;exact hR _ _ (Below.refl _ _) rfl)
 case o5=>(refine oQ rfl ?_;intro ρ w1 R hcon hfn hρ hb hp hR;have e33:ρ (.tmp 33)=_:=hp 4 33 rfl rfl;clear hρ hp;unfold OpRun;go_simp;(refine (LF2.out _ _ _ (k4.below hb)).mono ?_;rintro e wn ⟨a8,rfl,hn8,hbn⟩;exact ⟨_,rfl,hR _ _ hbn ⟨a8,_,rfl,hn8⟩⟩))
 case o6=>(refine oQ rfl ?_;intro ρ w1 R hcon hfn hρ hb hp hR;have f32:=hp 3 32 rfl rfl;have f34:=hp 5 34 rfl rfl;obtain ⟨a8,c8,e32,hn8⟩:=f32;obtain ⟨a7,c7,e34,hn7⟩:=f34;clear hρ hp;unfold OpRun;go_simp;(refine (CM1.out _ _ _ _ _ hn8 hn7).mono ?_;rintro e wn ⟨rfl,hbn⟩;exact ⟨_,rfl,hR _ _ hbn rfl⟩))
 case o7=>(refine oQ rfl ?_;intro ρ w1 R hcon hfn hρ hb hp hR;have e35:ρ (.tmp 35)=_:=hp 6 35 rfl rfl;clear hρ hp;unfold OpRun;go_simp;exact hR _ _ (Below.refl _ _) rfl)
 case after=>
  intro u wn hb hf
  have e36:u 36=_:=hf 7 36 (by omega) rfl
  clear hf
  simp only [putAll,Act.put,List.setIfInBounds_toArray,List.set_cons_zero,List.set_cons_succ,List.drop_succ_cons,List.drop_zero,List.drop_nil]
  rw [e36]
  have y5:=below_trans y4 hb
  have zA5:=zA4.below hb
  have zR5:=zR4.below hb
  have zS5:=zS4.below hb
  have k5:=k4.below hb
  clear y4 zA4 zR4 zS4 k4 hb j0 j1 j2 CM1 LF2 TM
  obtain ⟨lc,hlc⟩: ∃b,b=lgC m:=⟨_,rfl⟩
  have HLC:=hid hlc
  have HC2:=hid (show decide (0<κ)=lc by rw [hlc];exact HC.out)
  rw [←hlc] at HSS HS2
  obtain ⟨P2,hP2⟩: ∃x,x=2^lgS m:=⟨_,rfl⟩
  have HP2:=hid hP2
  rw [←hP2] at HSS
  obtain ⟨S2,hS2⟩: ∃x,x=lgS m:=⟨_,rfl⟩
  have HSS2:=hid hS2
  rw [←hS2] at HS2
  clear hlc hP2 hS2 HC
  rw [HC2.out]
  go_upto_if 36 with fail
  go_cut [7,8] (fun s7 s8 wx=> ∃ao co,s7=.slice ao (limbs P2).length co∧s8=.int .i64 (e+(S2:Int))∧Ns .u32 wx ao co (limbs P2)∧Below w.heap.size w wx∧QL 38 wx w.heap.size ng (.slice a (limbs m).length c) e∧QL 38 wx (w.heap.size+1) false (.slice none 0 0) 0∧QL 38 wx (w.heap.size+1+1) false (.slice none 0 0) 0)
  case first=>as_aux_lemma=>
   cases lc
   ·have e1:=HSS.out
    have e2:=HS2.out
    rw [if_neg (by simp)] at e1 e2
    have E1:=hid e1
    have E2:=hid e2
    clear e1 e2
    go_wp2_with fail
    go_meet
    rw [E1.out,E2.out]
    exact ⟨_,_,rfl,rfl,k5,y5,zA5,zR5,zS5⟩
   ·have e1:=HSS.out
    have e2:=HS2.out
    rw [if_pos rfl] at e1 e2
    have E1:=hid e1
    have E2:=hid e2
    have w5:IntKind.i64.wrap (e+(s0:Int)+1)=e+(s0:Int)+1:=IntWalk.i64_in _ (by omega)
    clear e1 e2
    go_wp2_with (go_at_call 69;(with_reducible refine (LF3.out _ _ _ k5).mono ?_);rintro en w6 ⟨b6,rfl,k6,hb6⟩)
    go_meet
    rw [E1.out,E2.out]
    exact ⟨_,_,rfl,by rw [Int.add_assoc],k6,below_trans y5 hb6,zA5.below hb6,zR5.below hb6,zS5.below hb6⟩
  case rest=>
   obtain ⟨a7,c7,rfl,rfl,k7,y7,zA7,zR7,zS7⟩:=hcut
   obtain ⟨W7,hW7⟩: ∃W,W=wc:=⟨_,rfl⟩
   subst hW7
   clear y5 zA5 zR5 zS5 k5 LF3 HC2
   obtain ⟨κ2,hκ2⟩: ∃κ,κ=cmpI (m:Int) (P2:Int):=⟨_,rfl⟩
   have CM2:=hid (fun a c b d w h k=>CM.out a c b d m P2 w h k)
   rw [←hκ2] at CM2
   have hK2:decide (κ2<0)=lc:=by
    rw [HLC.out,←lg_neg m hm,hκ2,←HP2.out]
    apply decide_eq_decide.2
    unfold cmpI
    constructor
    ·intro h
     split at h
     ·omega
     ·split at h<;>omega
    ·intro h
     rw [if_pos (by omega)];omega
   have HK2:=hid hK2
   clear hκ2 hK2 CM
   go_upto_region 6 with fail
   refine wp_region_grow 9 [41,42,43,44,45,46,47,9,10] [Fact.is (.pointer (some ⟨w.heap.size,1,none⟩)),Fact.is (.slice a (limbs m).length c),Fact.is (.pointer (some ⟨w.heap.size,1,none⟩)),Fact.is (.slice a (limbs m).length c),Fact.is (.slice a7 (limbs P2).length c7),Fact.is (.int .i64 κ2),Fact.is (.bool lc),Fact.is (.slice a (limbs m).length c),Fact.is (.bool lc)] (by kernel_rfl) (by kernel_rfl) ⟨?o0,?o1,?o2,?o3,?o4,?o5,?o6,?o7,?o8,trivial⟩ ?after
   case o0=>(refine oQ rfl ?_;intro ρ w1 R hcon hfn hρ hb hp hR;have e2:ρ (.tmp 2)=.pointer (some ⟨w.heap.size,0,none⟩):=hρ.tmp 2 rfl;clear hρ hp;unfold OpRun;go_simp;exact hR _ _ (Below.refl _ _) rfl)
   case o1=>(refine oQ rfl ?_;intro ρ w1 R hcon hfn hρ hb hp hR;have e41:ρ (.tmp 41)=_:=hp 0 41 rfl rfl;obtain ⟨⟨j0,j1,-⟩,j2,-⟩:=zA7.below hb;clear hρ hp;unfold OpRun;go_simp;exact hR _ _ (Below.refl _ _) rfl)
   case o2=>(refine oQ rfl ?_;intro ρ w1 R hcon hfn hρ hb hp hR;have e2:ρ (.tmp 2)=.pointer (some ⟨w.heap.size,0,none⟩):=hρ.tmp 2 rfl;clear hρ hp;unfold OpRun;go_simp;exact hR _ _ (Below.refl _ _) rfl)
   case o3=>(refine oQ rfl ?_;intro ρ w1 R hcon hfn hρ hb hp hR;have e43:ρ (.tmp 43)=_:=hp 2 43 rfl rfl;obtain ⟨⟨j0,j1,-⟩,j2,-⟩:=zA7.below hb;clear hρ hp;unfold OpRun;go_simp;exact hR _ _ (Below.refl _ _) rfl)
   case o4=>(refine oQ rfl ?_;intro ρ w1 R hcon hfn hρ hb hp hR;have e7:ρ (.tmp 7)=.slice a7 (limbs P2).length c7:=hρ.tmp 7 rfl;clear hρ hp;unfold OpRun;go_simp;exact hR _ _ (Below.refl _ _) rfl)
   case o5=>(refine oQ rfl ?_;intro ρ w1 R hcon hfn hρ hb hp hR;have e44:ρ (.tmp 44)=_:=hp 3 44 rfl rfl;have e45:ρ (.tmp 45)=_:=hp 4 45 rfl rfl;clear hρ hp;unfold OpRun;go_simp;(refine (CM2.out _ _ _ _ _ (H0.out.below (below_trans y7 hb)) (k7.below hb)).mono ?_;rintro e wn ⟨rfl,hbn⟩;exact ⟨_,rfl,hR _ _ hbn rfl⟩))
   case o6=>(refine oQ rfl ?_;intro ρ w1 R hcon hfn hρ hb hp hR;have e46:ρ (.tmp 46)=_:=hp 5 46 rfl rfl;have hk9:=HK2.out;clear hρ hp;unfold OpRun;go_simp;exact hR _ _ (Below.refl _ _) rfl)
   case o7=>(refine oQ rfl ?_;intro ρ w1 R hcon hfn hρ hb hp hR;have e42:ρ (.tmp 42)=_:=hp 1 42 rfl rfl;clear hρ hp;unfold OpRun;go_simp;exact hR _ _ (Below.refl _ _) rfl)
   case o8=>(refine oQ rfl ?_;intro ρ w1 R hcon hfn hρ hb hp hR;have e47:ρ (.tmp 47)=_:=hp 6 47 rfl rfl;clear hρ hp;unfold OpRun;go_simp;exact hR _ _ (Below.refl _ _) rfl)
   case after=>
    intro u wn hb hf
    have e9:u 9=_:=hf 7 9 (by omega) rfl
    have e10:u 10=_:=hf 8 10 (by omega) rfl
    clear hf
    simp only [putAll,Act.put,List.setIfInBounds_toArray,List.set_cons_zero,List.set_cons_succ,List.drop_succ_cons,List.drop_zero,List.drop_nil]
    rw [e9,e10]
    have y8:=below_trans y7 hb
    have zA8:=zA7.below hb
    have zR8:=zR7.below hb
    have zS8:=zS7.below hb
    have k8:=k7.below hb
    clear y7 zA7 zR7 zS7 k7 hb CM2 HK2
    rw [←HP2.out] at PLs AT1 SG1 MN1 MN2
    obtain ⟨NM,hNM⟩: ∃x,x=lgN m:=⟨_,rfl⟩
    have HNM2:=hid hNM
    rw [←hNM] at AT1 SG1
    have hN3:=HNM.out
    rw [←HLC.out,←HP2.out,←hNM] at hN3
    have HN3:=hid hN3
    rw [←HLC.out] at SG1
    clear hNM hN3
    go_upto_if 48 with fail
    go_cut [9] (fun s9 wx=> ∃a9 c9,s9=.slice a9 (limbs NM).length c9∧Ns .u32 wx a9 c9 (limbs NM)∧Ns .u32 wx a7 c7 (limbs P2)∧Below w.heap.size w wx∧QL 38 wx w.heap.size ng (.slice a (limbs m).length c) e∧QL 38 wx (w.heap.size+1) false (.slice none 0 0) 0∧QL 38 wx (w.heap.size+1+1) false (.slice none 0 0) 0)
    case first=>as_aux_lemma=>
     cases lc
     ·have h3:=HN3.out
      simp only [Bool.false_eq_true,if_false] at h3
      have MN:=hid (MN2.out h3.1)
      rw [←h3.2.2] at MN
      clear h3
      go_wp2_with (go_at_call 71;(with_reducible refine (MN.out _ _ _ _ _ (H0.out.below y8) k8).mono ?_);rintro en w9 ⟨b9,rfl,k9,hb9⟩)
      go_meet
      exact ⟨_,_,rfl,k9,k8.below hb9,below_trans y8 hb9,zA8.below hb9,zR8.below hb9,zS8.below hb9⟩
     ·have h3:=HN3.out
      simp only [if_true] at h3
      have MN:=hid (MN1.out (by omega))
      rw [←h3.2.2] at MN
      clear h3
      go_wp2_with (go_at_call 71;(with_reducible refine (MN.out _ _ _ _ _ k8 (H0.out.below y8)).mono ?_);rintro en w9 ⟨b9,rfl,k9,hb9⟩)
      go_meet
      exact ⟨_,_,rfl,k9,k8.below hb9,below_trans y8 hb9,zA8.below hb9,zR8.below hb9,zS8.below hb9⟩
    case rest=>
     obtain ⟨a9,c9,rfl,k9,k8',y9,zA9,zR9,zS9⟩:=hcut
     obtain ⟨W9,hW9⟩: ∃W,W=wc:=⟨_,rfl⟩
     subst hW9
     clear y8 zA8 zR8 zS8 k8 MN1 MN2
     obtain ⟨A9,hA9⟩: ∃x,x=atP (frB NM (m+P2) (2^p)) p kA:=⟨_,rfl⟩
     rw [←hA9] at AT1 SG1
     have HA9:=hid hA9
     obtain ⟨DN,hDN⟩: ∃x,x=m+P2:=⟨_,rfl⟩
     rw [←hDN] at PLs AT1
     have HDN:=hid hDN
     obtain ⟨DA,hDA⟩: ∃x,x=nrm (sgP A9 lc).1 (-(p:Int)):=⟨_,rfl⟩
     obtain ⟨EA,hEA⟩: ∃x,x=nrm (sgP A9 lc).2 (-(p:Int)):=⟨_,rfl⟩
     rw [←hDA,←hEA] at SG1
     have HDA:=hid hDA
     have HEA:=hid hEA
     clear hA9 hDN hDA hEA
     obtain ⟨⟨j0,j1,-⟩,j2,-⟩:=id zA9
     go_upto_region 11 with (first
      |(go_at_call 70;(with_reducible refine (PLs.out _ _ _ _ _ (H0.out.below y9) k8').mono ?_);rintro en w10 ⟨b10,rfl,kd,hbp⟩)
      |(go_at_call 105;(with_reducible refine (AT1.out _ _ _ _ _ (k9.below hbp) kd).mono ?_);rintro en w11 ⟨vA,rfl,hvA,hba⟩)
      |(go_at_call 104;(with_reducible refine (SG1.out _ _ hvA (HT.out.below (below_trans (below_trans y9 hbp) hba))).mono ?_);rintro en w12 ⟨v1,u1,rfl,⟨a11,c11,rfl,n11⟩,⟨a12,c12,rfl,n12⟩,hbs⟩))
     have hltS:=(((zS9.below hbp).below hba).below hbs).lt
     refine wp_wld9 (fun WW=>Below w.heap.size w WW∧QL 38 WW (w.heap.size+1) false (.slice none 0 0) 0∧QL 38 WW (w.heap.size+1+1) false (.slice none 0 0) 0∧DV 38 WW w12.heap.size DA∧DV 38 WW (w12.heap.size+1) EA) ⟨below_trans (below_trans (below_trans (below_trans (below_trans y9 hbp) hba) hbs) (below_alloc _ _)) (below_alloc _ _),((((zR9.below hbp).below hba).below hbs).alloc _).alloc _,((((zS9.below hbp).below hba).below hbs).alloc _).alloc _,⟨a11,c11,(QL.made rfl).alloc _,(n11.below (below_alloc _ _)).below (below_alloc _ _)⟩,⟨a12,c12,QL.made (by simp),(n12.below (below_alloc _ _)).below (below_alloc _ _)⟩⟩ ?_
     obtain ⟨g11,hg11⟩: ∃g,g=w12.heap.size:=⟨_,rfl⟩
     rw [←hg11] at hltS ⊢
     clear y9 zA9 zR9 zS9 k9 k8' kd hvA n11 n12 hbp hba hbs j0 j1 j2 hg11 PLs AT1 SG1
     intro W10 ⟨yA,zR,zS,v11,v12⟩
     obtain ⟨T9,hT9⟩: ∃x,x=atP (frB 1 3 (2^p)) p kT:=⟨_,rfl⟩
     rw [←hT9] at AT3
     have HT9:=hid hT9
     clear hT9
     go_upto_region 12 with (first
      |(go_at_call 66;(with_reducible refine (OF1.out _).mono ?_);rintro en w13 ⟨b13,rfl,k13,hb13⟩)
      |(go_at_call 66;(with_reducible refine (OF3.out _).mono ?_);rintro en w14 ⟨b14,rfl,k14,hb14⟩)
      |(go_at_call 105;(with_reducible refine (AT3.out _ _ _ _ _ (k13.below hb14) k14).mono ?_);rintro en w15 ⟨vT,rfl,⟨aT,bT,cT,dT,rfl,nT,mT⟩,hb15⟩))
     refine wp_wld9 (fun WW=>Below w.heap.size w WW∧QL 38 WW (w.heap.size+1) false (.slice none 0 0) 0∧QL 38 WW (w.heap.size+1+1) false (.slice none 0 0) 0∧DV 38 WW g11 DA∧DV 38 WW (g11+1) EA∧PV 100 WW w15.heap.size T9) ⟨below_trans (below_trans (below_trans (below_trans yA hb13) hb14) hb15) (below_alloc _ _),(((zR.below hb13).below hb14).below hb15).alloc _,(((zS.below hb13).below hb14).below hb15).alloc _,(((v11.below hb13).below hb14).below hb15).below (below_alloc _ _),(((v12.below hb13).below hb14).below hb15).below (below_alloc _ _),PV.made rfl nT mT⟩ ?_
     obtain ⟨g13,hg13⟩: ∃g,g=w15.heap.size:=⟨_,rfl⟩
     rw [←hg13]
     clear yA zR zS v11 v12 nT mT hb13 hb14 hb15 k13 k14 hg13 AT3
     intro W11 ⟨yB,zR,zS,v11,v12,v13⟩
     obtain ⟨nn,hnn⟩: ∃n:Int,n=e+(S2:Int):=⟨_,rfl⟩
     rw [←hnn]
     have HNN:=hid hnn
     have hS2b:(S2:Int)≤1281:=by have:=HS2.out;split at this<;>omega
     have hnb: -3000≤nn∧nn≤4300:=by omega
     clear hnn
     have w6:IntKind.i64.wrap (-nn)= -nn:=IntWalk.i64_in _ (by omega)
     obtain ⟨M,hM⟩: ∃M,M=nn.natAbs:=⟨_,rfl⟩
     have hMx:max nn (-nn)=(M:Int):=by omega
     have hMb:M≤8000:=by omega
     have OFM:=hid (show ∀w,Calls Tryz.prog 66 #[.int .u64 (max nn (-nn))] w fun e w'=>RetN w M e w' from fun w=>by rw [hMx];exact natOf_any M (by omega) w)
     have HM:=hid hM
     have hT9r:=HA3.out.res
     rw [←HT9.out] at hT9r
     have lt1:(limbs T9.1).length≤4294967296:=len_le hT9r.1 (by omega)
     have lt2:(limbs T9.2).length≤4294967296:=len_le hT9r.2 (by omega)
     have lM:(limbs M).length≤4294967296:=len_le (k:=13) (by omega) (by omega)
     have TL1:=hid (fun a b c d w h k=>times_any a b c d T9.1 M w h k lt1 lM)
     have TL2:=hid (fun a b c d w h k=>times_any a b c d T9.2 M w h k lt2 lM)
     have l13: ∀x,x≤2^(p+40)→(limbs (x*M)).length≤4294967296:=fun x hx=>len_le (k:=p+40+13) (by rw [Nat.pow_add];exact Nat.mul_le_mul hx (by omega)) (by omega)
     obtain ⟨D3,hD3⟩: ∃x,x=nrm (sgP (mlP M T9) (decide (nn<0))).1 (-(p:Int)):=⟨_,rfl⟩
     obtain ⟨E3,hE3⟩: ∃x,x=nrm (sgP (mlP M T9) (decide (nn<0))).2 (-(p:Int)):=⟨_,rfl⟩
     have SG3:=hid (fun v w h t=>signed_any (mlP M T9) (decide (nn<0)) p v w h (l13 _ hT9r.1) (l13 _ hT9r.2) (by omega) t)
     rw [←hD3,←hE3] at SG3
     have HD3:=hid hD3
     have HE3:=hid hE3
     clear hM hMx hT9r lt1 lt2 lM l13 hD3 hE3
     go_upto_region 13 with fail
     refine wp_region_growL 20 17 [78,79,80,81,82,83,84,85,86,87,88,89,90,91,92,77,93,94,15,16] [Fact.is (.pointer (some ⟨g13,0,none⟩)),Fact.li T9.1,Fact.is (.int .u64 (max nn (-nn))),Fact.li M,Fact.li (T9.1*M),Fact.is (.pointer (some ⟨g13,1,none⟩)),Fact.li T9.2,Fact.is (.int .u64 (max nn (-nn))),Fact.li M,Fact.li (T9.2*M),Fact.pr (mlP M T9),Fact.is (.int .i64 nn),Fact.is (.bool (decide (nn<0))),Fact.is (.int .i64 (p:Int)),Fact.vd2 D3 E3,Fact.vd2 D3 E3,Fact.vd D3,Fact.vd E3,Fact.d0 W11.heap.size 38,Fact.d0 W11.heap.size 38] [18,19] (by kernel_rfl) (by kernel_rfl) rfl ⟨?o0,?o1,?o2,?o3,?o4,?o5,?o6,?o7,?o8,?o9,?o10,?o11,?o12,?o13,?o14,?o15,?o16,?o17,?o18,?o19,trivial⟩ ?late (fun d _ _ _ _ h=>by cases d<;>exact h) ?after
     case o0=>(refine oQF rfl ?_;intro ρ w1 R hcon hfn hρ hb hp hR;have e13:ρ (.tmp 13)=.pointer (some ⟨g13,0,none⟩):=hρ.tmp 13 rfl;replace hR:=fun v w2 h1 h2=>hR v w2 h1 h2 (fun h=>absurd h (by decide));clear hρ hp;unfold OpRun;go_simp;exact hR _ _ (Below.refl _ _) rfl)
     case o1=>(refine oQF rfl ?_;intro ρ w1 R hcon hfn hρ hb hp hR;have e78:ρ (.tmp 78)=_:=hp 0 78 rfl rfl;obtain ⟨qa,qb,qc,qd,⟨q0,q1,-⟩,qn,qm⟩:=v13.below hb;replace hR:=fun v w2 h1 h2=>hR v w2 h1 h2 (fun h=>absurd h (by decide));clear hρ hp;unfold OpRun;go_simp;exact hR _ _ (Below.refl _ _) ⟨qa,qc,rfl,qn⟩)
     case o2=>(refine oQF rfl ?_;intro ρ w1 R hcon hfn hρ hb hp hR;have e14:ρ (.tmp 14)=.int .u64 (max nn (-nn)):=hρ.tmp 14 rfl;replace hR:=fun v w2 h1 h2=>hR v w2 h1 h2 (fun h=>absurd h (by decide));clear hρ hp;unfold OpRun;go_simp;exact hR _ _ (Below.refl _ _) rfl)
     case o3=>(refine oQF rfl ?_;intro ρ w1 R hcon hfn hρ hb hp hR;have e80:ρ (.tmp 80)=_:=hp 2 80 rfl rfl;replace hR:=fun v w2 h1 h2=>hR v w2 h1 h2 (fun h=>absurd h (by decide));clear hρ hp;unfold OpRun;go_simp;(refine (OFM.out _).mono ?_;rintro e wn ⟨a8,rfl,hn8,hbn⟩;exact ⟨_,rfl,hR _ _ hbn ⟨a8,_,rfl,hn8⟩⟩))
     case o4=>(refine oQF rfl ?_;intro ρ w1 R hcon hfn hρ hb hp hR;have f79:=hp 1 79 rfl rfl;have f81:=hp 3 81 rfl rfl;obtain ⟨a7,c7,e79,hn7⟩:=f79;obtain ⟨a8,c8,e81,hn8⟩:=f81;replace hR:=fun v w2 h1 h2=>hR v w2 h1 h2 (fun h=>absurd h (by decide));clear hρ hp;unfold OpRun;go_simp;(skip;refine (TL1.out _ _ _ _ _ hn7 hn8).mono ?_;rintro e wn ⟨a6,rfl,hn6,hbn⟩;exact ⟨_,rfl,hR _ _ hbn ⟨a6,_,rfl,hn6⟩⟩))
     case o5=>(refine oQF rfl ?_;intro ρ w1 R hcon hfn hρ hb hp hR;have e13:ρ (.tmp 13)=.pointer (some ⟨g13,0,none⟩):=hρ.tmp 13 rfl;replace hR:=fun v w2 h1 h2=>hR v w2 h1 h2 (fun h=>absurd h (by decide));clear hρ hp;unfold OpRun;go_simp;exact hR _ _ (Below.refl _ _) rfl)
     case o6=>(refine oQF rfl ?_;intro ρ w1 R hcon hfn hρ hb hp hR;have e83:ρ (.tmp 83)=_:=hp 5 83 rfl rfl;obtain ⟨qa,qb,qc,qd,⟨q0,q1,-⟩,qn,qm⟩:=v13.below hb;replace hR:=fun v w2 h1 h2=>hR v w2 h1 h2 (fun h=>absurd h (by decide));clear hρ hp;unfold OpRun;go_simp;exact hR _ _ (Below.refl _ _) ⟨qb,qd,rfl,qm⟩)
     case o7=>(refine oQF rfl ?_;intro ρ w1 R hcon hfn hρ hb hp hR;have e14:ρ (.tmp 14)=.int .u64 (max nn (-nn)):=hρ.tmp 14 rfl;replace hR:=fun v w2 h1 h2=>hR v w2 h1 h2 (fun h=>absurd h (by decide));clear hρ hp;unfold OpRun;go_simp;exact hR _ _ (Below.refl _ _) rfl)
     case o8=>(refine oQF rfl ?_;intro ρ w1 R hcon hfn hρ hb hp hR;have e85:ρ (.tmp 85)=_:=hp 7 85 rfl rfl;replace hR:=fun v w2 h1 h2=>hR v w2 h1 h2 (fun h=>absurd h (by decide));clear hρ hp;unfold OpRun;go_simp;(refine (OFM.out _).mono ?_;rintro e wn ⟨a8,rfl,hn8,hbn⟩;exact ⟨_,rfl,hR _ _ hbn ⟨a8,_,rfl,hn8⟩⟩))
     case o9=>(refine oQF rfl ?_;intro ρ w1 R hcon hfn hρ hb hp hR;have f84:=hp 6 84 rfl rfl;have f86:=hp 8 86 rfl rfl;obtain ⟨a7,c7,e84,hn7⟩:=f84;obtain ⟨a8,c8,e86,hn8⟩:=f86;replace hR:=fun v w2 h1 h2=>hR v w2 h1 h2 (fun h=>absurd h (by decide));clear hρ hp;unfold OpRun;go_simp;(skip;refine (TL2.out _ _ _ _ _ hn7 hn8).mono ?_;rintro e wn ⟨a6,rfl,hn6,hbn⟩;exact ⟨_,rfl,hR _ _ hbn ⟨a6,_,rfl,hn6⟩⟩))
     case o10=>(refine oQF rfl ?_;intro ρ w1 R hcon hfn hρ hb hp hR;have f82:=hp 4 82 rfl rfl;have f87:=hp 9 87 rfl rfl;obtain ⟨a7,c7,e82,hn7⟩:=f82;obtain ⟨a8,c8,e87,hn8⟩:=f87;replace hR:=fun v w2 h1 h2=>hR v w2 h1 h2 (fun h=>absurd h (by decide));clear hρ hp;unfold OpRun;go_simp;exact hR _ _ (Below.refl _ _) ⟨a7,a8,c7,c8,rfl,hn7,hn8⟩)
     case o11=>(refine oQF rfl ?_;intro ρ w1 R hcon hfn hρ hb hp hR;have e8:ρ (.tmp 8)=.int .i64 nn:=hρ.tmp 8 rfl;replace hR:=fun v w2 h1 h2=>hR v w2 h1 h2 (fun h=>absurd h (by decide));clear hρ hp;unfold OpRun;go_simp;exact hR _ _ (Below.refl _ _) rfl)
     case o12=>(refine oQF rfl ?_;intro ρ w1 R hcon hfn hρ hb hp hR;have e89:ρ (.tmp 89)=_:=hp 11 89 rfl rfl;replace hR:=fun v w2 h1 h2=>hR v w2 h1 h2 (fun h=>absurd h (by decide));clear hρ hp;unfold OpRun;go_simp;exact hR _ _ (Below.refl _ _) rfl)
     case o13=>(refine oQF rfl ?_;intro ρ w1 R hcon hfn hρ hb hp hR;have e1:ρ (.tmp 1)=.int .i64 (p:Int):=hρ.tmp 1 rfl;replace hR:=fun v w2 h1 h2=>hR v w2 h1 h2 (fun h=>absurd h (by decide));clear hρ hp;unfold OpRun;go_simp;exact hR _ _ (Below.refl _ _) rfl)
     case o14=>(refine oQF rfl ?_;intro ρ w1 R hcon hfn hρ hb hp hR;have f88:=hp 10 88 rfl rfl;have e90:ρ (.tmp 90)=_:=hp 12 90 rfl rfl;have e91:ρ (.tmp 91)=_:=hp 13 91 rfl rfl;replace hR:=fun v w2 h1 h2=>hR v w2 h1 h2 (fun h=>absurd h (by decide));clear hρ hp;unfold OpRun;go_simp;(refine (SG3.out _ _ f88 (HT.out.below (below_trans yB hb))).mono ?_;rintro e wn ⟨v9,u9,rfl,hv9,hu9,hbn⟩;exact ⟨_,rfl,hR _ _ hbn ⟨v9,u9,rfl,hv9,hu9⟩⟩))
     case o15=>(refine oQF rfl ?_;intro ρ w1 R hcon hfn hρ hb hp hR;have f92:=hp 14 92 rfl rfl;replace hR:=fun v w2 h1 h2=>hR v w2 h1 h2 (fun h=>absurd h (by decide));clear hρ hp;unfold OpRun;go_simp;exact hR _ _ (Below.refl _ _) f92)
     case o16=>(refine oQF rfl ?_;intro ρ w1 R hcon hfn hρ hb hp hR;have f77:=hp 15 77 rfl rfl;obtain ⟨a97,b97,e97,h97,k97⟩:=f77;replace hR:=fun v w2 h1 h2=>hR v w2 h1 h2 (fun h=>absurd h (by decide));clear hρ hp;unfold OpRun;go_simp;exact hR _ _ (Below.refl _ _) h97)
     case o17=>(refine oQF rfl ?_;intro ρ w1 R hcon hfn hρ hb hp hR;have f77:=hp 15 77 rfl rfl;obtain ⟨a97,b97,e97,h97,k97⟩:=f77;replace hR:=fun v w2 h1 h2=>hR v w2 h1 h2 (fun h=>absurd h (by decide));clear hρ hp;unfold OpRun;go_simp;exact hR _ _ (Below.refl _ _) k97)
     case o18=>(refine oQF rfl ?_;intro ρ w1 R hcon hfn hρ hb hp hR;clear hρ hp;unfold OpRun;go_simp;exact hR _ _ (below_alloc _ _) ⟨_,rfl,hb.size,QL.made rfl⟩ (fun _=>⟨_,rfl,Nat.le_refl _,by simp⟩))
     case o19=>(refine oQF rfl ?_;intro ρ w1 R hcon hfn hρ hb hp hR;clear hρ hp;unfold OpRun;go_simp;exact hR _ _ (below_alloc _ _) ⟨_,rfl,hb.size,QL.made rfl⟩ (fun _=>⟨_,rfl,Nat.le_refl _,by simp⟩))
     case late=>
      intro o ho
      simp only [List.getElem?_cons_succ,List.getElem?_cons_zero,Option.some.injEq] at ho
      subst ho
      refine ⟨rfl,?_⟩
      intro ρ w1 hρ hb hp
      have f77:=hp 15 77 rfl rfl
      obtain ⟨a97,b97,e97,h97,k97⟩:=f77
      refine ⟨_,?_,k97⟩
      intro w2
      have hcon:=hρ.con
      go_simp
      try rfl
     case after=>
      intro u wn hb hf hd
      have f93:=hf 16 93 (by omega) rfl
      have f94:=hf 17 94 (by omega) rfl
      have f15:=hf 18 15 (by omega) rfl
      have f16:=hf 19 16 (by omega) rfl
      have d15_16:u 15≠u 16:=hd 18 19 15 16 (by omega) (by omega) (by omega) rfl rfl rfl rfl
      clear hf hd
      simp only [putAll,Act.put,List.setIfInBounds_toArray,List.set_cons_zero,List.set_cons_succ,List.drop_succ_cons,List.drop_zero,List.drop_nil]
      obtain ⟨a93,c93,e93,n93⟩:=f93
      obtain ⟨a94,c94,e94,n94⟩:=f94
      obtain ⟨g15,e15,hg15,z15⟩:=f15
      obtain ⟨g16,e16,hg16,z16⟩:=f16
      have gne:g15≠g16:=by intro h;apply d15_16;rw [e15,e16,h]
      rw [e93,e94,e15,e16]
      clear e93 e94 e15 e16 d15_16
      have zst:=dv_store2 hb hg15 hg16 gne z15 z16 n93 n94
      obtain ⟨⟨k0,k1,kf0,kf1,hs2⟩,k2,kf2⟩:=id z15
      obtain ⟨⟨m0,m1,mf0,mf1,hs3⟩,m2,mf2⟩:=id z16
      go_upto_region 14 with fail
      clear k0 k1 k2 kf0 kf1 kf2 hs2 m0 m1 m2 mf0 mf1 mf2 hs3 z15 z16 n93 n94 hb
      refine wp_wld9 (fun WW=>Below W11.heap.size W11 WW∧DV 38 WW g15 D3∧DV 38 WW g16 E3) zst ?_
      clear zst
      intro W12 ⟨yC,v15,v16⟩
      have zR2:=zR.below yC
      have zS2:=zS.below yC
      have v11':=v11.below yC
      have v12':=v12.below yC
      have yD:=below_trans yB yC
      clear zR zS v11 v12 v13 yB yC OFM TL1 TL2 SG3 hltS w6
      have eF:nrm (addI (sgP (atP (frB (lgN m) (m+2^lgS m) (2^p)) p kA) (lgC m)) (sgP (mlP (e+lgS m).natAbs (atP (frB 1 3 (2^p)) p kT)) (decide (e+lgS m<0)))).1 (-(p:Int))=addD DA D3∧nrm (addI (sgP (atP (frB (lgN m) (m+2^lgS m) (2^p)) p kA) (lgC m)) (sgP (mlP (e+lgS m).natAbs (atP (frB 1 3 (2^p)) p kT)) (decide (e+lgS m<0)))).2 (-(p:Int))=addD EA E3:=by
       rw [HDA.out,HEA.out,HD3.out,HE3.out,HA9.out,HT9.out,HM.out,HNN.out,HNM2.out,HP2.out,HLC.out,HSS2.out,addD_levl,addD_levl]
       exact ⟨rfl,rfl⟩
      have hq:=HA.out.res
      rw [←HNM2.out,←HP2.out,←HA9.out] at hq
      have hr:=HA3.out.res
      rw [←HT9.out] at hr
      have h40:2^(p+40)<2^(p+60):=Nat.pow_lt_pow_right (by omega) (by omega)
      have h13: ∀x,x≤2^(p+40)→x*M<2^(p+60):=fun x hx=>Nat.lt_of_le_of_lt (Nat.mul_le_mul hx (show M≤2^13 by omega)) (by rw [←Nat.pow_add];exact Nat.pow_lt_pow_right (by omega) (by omega))
      have sA:=sgP_abs A9 lc _ (Nat.lt_of_le_of_lt hq.1 h40) (Nat.lt_of_le_of_lt hq.2 h40)
      have sT:=sgP_abs (mlP M T9) (decide (nn<0)) _ (h13 _ hr.1) (h13 _ hr.2)
      have bA:=nrm_fit _ p p1 sA.1
      have bE:=nrm_fit _ p p1 sA.2
      have b3:=nrm_fit _ p p1 sT.1
      have c3:=nrm_fit _ p p1 sT.2
      rw [←HDA.out] at bA
      rw [←HEA.out] at bE
      rw [←HD3.out] at b3
      rw [←HE3.out] at c3
      have PD1:=hid (fun v u w h k t=>plusD_any v u DA D3 w h k bA.1 b3.1 bA.2 b3.2 t)
      have PD2:=hid (fun v u w h k t=>plusD_any v u EA E3 w h k bE.1 c3.1 bE.2 c3.2 t)
      obtain ⟨F1,hF1⟩: ∃F,F=addD DA D3:=⟨_,rfl⟩
      obtain ⟨F2,hF2⟩: ∃F,F=addD EA E3:=⟨_,rfl⟩
      rw [←hF1] at PD1 eF
      rw [←hF2] at PD2 eF
      have EF:=hid eF
      clear hF1 hF2 eF hq hr h40 h13 sA sT bA bE b3 c3 hg15 hg16 gne
      refine wp_region_grow 6 [95,96,97,98,99,100] [Fact.vd DA,Fact.vd D3,Fact.vd F1,Fact.vd EA,Fact.vd E3,Fact.vd F2] (by kernel_rfl) (by kernel_rfl) ⟨?o0,?o1,?o2,?o3,?o4,?o5,trivial⟩ ?after
      case o0=>(refine oQ rfl ?_;intro ρ w1 R hcon hfn hρ hb hp hR;have e11:ρ (.tmp 11)=.pointer (some ⟨g11,0,none⟩):=hρ.tmp 11 rfl;obtain ⟨qa,qc,⟨⟨j0,j1,-⟩,j2,-⟩,qn⟩:=v11'.below hb;clear hρ hp;unfold OpRun;go_simp;exact hR _ _ (Below.refl _ _) ⟨qa,qc,rfl,qn⟩)
      case o1=>(refine oQ rfl ?_;intro ρ w1 R hcon hfn hρ hb hp hR;have e15:ρ (.tmp 15)=.pointer (some ⟨g15,0,none⟩):=hρ.tmp 15 rfl;obtain ⟨qa,qc,⟨⟨j0,j1,-⟩,j2,-⟩,qn⟩:=v15.below hb;clear hρ hp;unfold OpRun;go_simp;exact hR _ _ (Below.refl _ _) ⟨qa,qc,rfl,qn⟩)
      case o2=>(refine oQ rfl ?_;intro ρ w1 R hcon hfn hρ hb hp hR;have f95:=hp 0 95 rfl rfl;have f96:=hp 1 96 rfl rfl;clear hρ hp;unfold OpRun;go_simp;(refine (PD1.out _ _ _ f95 f96 (HT.out.below (below_trans yD hb))).mono ?_;rintro e wn ⟨v9,rfl,hv9,hbn⟩;exact ⟨_,rfl,hR _ _ hbn hv9⟩))
      case o3=>(refine oQ rfl ?_;intro ρ w1 R hcon hfn hρ hb hp hR;have e12:ρ (.tmp 12)=.pointer (some ⟨(g11+1),0,none⟩):=hρ.tmp 12 rfl;obtain ⟨qa,qc,⟨⟨j0,j1,-⟩,j2,-⟩,qn⟩:=v12'.below hb;clear hρ hp;unfold OpRun;go_simp;exact hR _ _ (Below.refl _ _) ⟨qa,qc,rfl,qn⟩)
      case o4=>(refine oQ rfl ?_;intro ρ w1 R hcon hfn hρ hb hp hR;have e16:ρ (.tmp 16)=.pointer (some ⟨g16,0,none⟩):=hρ.tmp 16 rfl;obtain ⟨qa,qc,⟨⟨j0,j1,-⟩,j2,-⟩,qn⟩:=v16.below hb;clear hρ hp;unfold OpRun;go_simp;exact hR _ _ (Below.refl _ _) ⟨qa,qc,rfl,qn⟩)
      case o5=>(refine oQ rfl ?_;intro ρ w1 R hcon hfn hρ hb hp hR;have f98:=hp 3 98 rfl rfl;have f99:=hp 4 99 rfl rfl;clear hρ hp;unfold OpRun;go_simp;(refine (PD2.out _ _ _ f98 f99 (HT.out.below (below_trans yD hb))).mono ?_;rintro e wn ⟨v9,rfl,hv9,hbn⟩;exact ⟨_,rfl,hR _ _ hbn hv9⟩))
      case after=>
       intro u wn hb hf
       have f97:=hf 2 97 (by omega) rfl
       have f100:=hf 5 100 (by omega) rfl
       clear hf
       simp only [putAll,Act.put,List.setIfInBounds_toArray,List.set_cons_zero,List.set_cons_succ,List.drop_succ_cons,List.drop_zero,List.drop_nil]
       obtain ⟨a97,c97,e97,n97⟩:=f97
       obtain ⟨a98,c98,e98,n98⟩:=f100
       rw [e97,e98]
       have zR3:=zR2.below hb
       have zS3:=zS2.below hb
       have yb2:=below_trans yD hb
       clear zR2 zS2 v11' v12' v15 v16 yD hb e97 e98 PD1 PD2
       obtain ⟨⟨k0,k1,f0,f1,hs2⟩,k2,f2⟩:=id zR3
       obtain ⟨⟨m0,m1,g0,g1,hs3⟩,m2,g2⟩:=id zS3
       go_wp2_with fail
       refine bodyPost_ret (by simp [results,Tryz.results64,go_sem,k0,k1,k2,m0,m1,m2];try rfl) rfl ?_
       rw [EF.out.1,EF.out.2]
       have zS4:=zS3.far3 (b:=w.heap.size+1) (by omega) (.bool (decide (F1.1<0))) (.slice a97 (limbs F1.1.natAbs).length c97) (.int .i64 F1.2)
       exact ⟨_,_,rfl,⟨a97,c97,rfl,(n97.set3 zR3 (by intro x h;cases h) _ _ _).set3 zS4 (by intro x h;cases h) _ _ _⟩,⟨a98,c98,rfl,(n98.set3 zR3 (by intro x h;cases h) _ _ _).set3 zS4 (by intro x h;cases h) _ _ _⟩,Go.Ulp.Below.put3 (Go.Ulp.Below.put3 yb2 (by omega) _ _ _) (by omega) _ _ _⟩
end Go.Proofs.YtehhegbkahnhgaaGreatDoor
