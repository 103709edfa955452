/- WantedSays: what the proof leans on, part 20 (Tx7 Tx4 Tx6). -/
import Derived.Test.YtfphmlmgjhebjaaGreatDoorKWantedSays11
import Derived.Test.YtfphmlmgjhebjaaGreatDoorKWantedSays13
import Derived.Test.YtfphmlmgjhebjaaGreatDoorKWantedSays14
import Derived.Test.YtfphmlmgjhebjaaGreatDoorKWantedSays17
set_option linter.unusedVariables false
set_option linter.unusedSimpArgs false
namespace Go.Ulp
open Go.RowKit
def RetZB (t:TypeId) (w:World) (x:Int) (c:Bool) (e:Ending) (w':World):Prop:= ∃v,e=.returned (.tuple #[v,.bool c])∧ZD t w' x v∧Below w.heap.size w w'
theorem rm_start (tz ti:TypeId) (x y:Int) (a b:Option Addr) (c d:Nat) (w:World) (h0:Nz ti w a c (zl x)) (h1:Nz ti w b d (zl y)):
 Below w.heap.size w (((w.alloc (.cells #[.bool (zneg x),.slice a (zl x).length c] tz)).alloc (.cells #[.bool (zneg y),.slice b (zl y).length d] tz)).alloc (.cells #[.bool false,.slice none 0 0] tz))∧ZV tz ti (((w.alloc (.cells #[.bool (zneg x),.slice a (zl x).length c] tz)).alloc (.cells #[.bool (zneg y),.slice b (zl y).length d] tz)).alloc (.cells #[.bool false,.slice none 0 0] tz)) w.heap.size x∧ZV tz ti (((w.alloc (.cells #[.bool (zneg x),.slice a (zl x).length c] tz)).alloc (.cells #[.bool (zneg y),.slice b (zl y).length d] tz)).alloc (.cells #[.bool false,.slice none 0 0] tz)) (w.heap.size+1) y∧ZL tz (((w.alloc (.cells #[.bool (zneg x),.slice a (zl x).length c] tz)).alloc (.cells #[.bool (zneg y),.slice b (zl y).length d] tz)).alloc (.cells #[.bool false,.slice none 0 0] tz)) (w.heap.size+1+1) false (.slice none 0 0):=by
 obtain ⟨z1,z2,z3⟩:=zv_made2 (tz:=tz) h0 h1
 exact ⟨below_trans z1 (below_alloc _ _),z2.below (below_alloc _ _),z3.below (below_alloc _ _),ZL.made (by simp)⟩
end Go.Ulp
namespace Go.Proofs.YtfphmlmgjhebjaaGreatDoor
open Go.RowKit Go.Ulp
set_option maxHeartbeats 2000000
set_option maxRecDepth 100000
theorem ratioMode_any (v u:Value) (a b:Nat) (neg:Bool) (mode:Int) (w:World) (hv:ZD 3 w (a:Int) v) (hu:ZD 3 w (b:Int) u) (ha:(zl (a:Int)).length≤900000) (hb:(zl (b:Int)).length≤900000) (hb0:0<b) (m0:0≤mode) (m1:mode≤4):
 Calls Tryz.prog 197 #[v,u,.bool neg,.int .i64 mode] w (RetZB 3 w (rtN neg a b mode:Int) (rtC a b)):=by
 obtain ⟨av,cv,rfl,hN0⟩:=hv
 obtain ⟨au,cu,rfl,hN1⟩:=hu
 obtain ⟨q,hq⟩: ∃q,q=a/b:=⟨_,rfl⟩
 obtain ⟨r,hr⟩: ∃r,r=a%b:=⟨_,rfl⟩
 have hrb:r<b:=by rw [hr];exact Nat.mod_lt _ hb0
 have hqa:q≤a:=by rw [hq];exact Nat.div_le_self _ _
 have lq:(zl (q:Int)).length≤900000:=Nat.le_trans (zl_len_le (by omega)) ha
 have lr:(zl (r:Int)).length≤900000:=Nat.le_trans (zl_len_le (show (r:Int).natAbs≤(b:Int).natAbs by omega)) hb
 obtain ⟨half,hhalf⟩: ∃x,x=cmpI ((2*r:Nat):Int) (b:Int):=⟨_,rfl⟩
 obtain ⟨up,hup⟩: ∃x,x=upN neg (decide (q%2=1)) half mode:=⟨_,rfl⟩
 obtain ⟨NN,hNN⟩: ∃N:Nat,N=rtN neg a b mode:=⟨_,rfl⟩
 obtain ⟨CC,hCC⟩: ∃C,C=rtC a b:=⟨_,rfl⟩
 have HNN:=hid (show NN=if r≠0∧up=true then q+1 else q by rw [hNN];unfold rtN;rw [←hq,←hr,←hhalf,←hup])
 have HCC:=hid (show CC=decide (r≠0) by rw [hCC];unfold rtC;rw [←hr])
 rw [←hNN,←hCC]
 have DV:=hid (show ∀a0 a1 c0 c1 w,Nz 3 w a0 c0 (zl (a:Int))→Nz 3 w a1 c1 (zl (b:Int))→Calls Tryz.prog 118 #[.agg #[.bool (zneg (a:Int)),.slice a0 (zl (a:Int)).length c0],.agg #[.bool (zneg (b:Int)),.slice a1 (zl (b:Int)).length c1]] w fun e w'=>RetZ2 3 w (q:Int) (r:Int) e w' from fun a0 a1 c0 c1 w h0 h1=>by
  have h9:=zdiv_any a0 a1 c0 c1 (a:Int) (b:Int) w h0 h1 (by omega) (by omega) (by omega)
  rw [←Int.natCast_ediv,←Int.natCast_emod,←hq,←hr] at h9
  exact h9)
 have ZS:=hid (fun a0 c0 w h=>zsign_any a0 c0 (r:Int) w h)
 have H0:=hid hN0
 have H1:=hid hN1
 have HUP:=hid hup
 have HHF:=hid hhalf
 clear hN0 hN1 hNN hCC hup hhalf hq hr ha hqa
 go_enter Tryz.func197,Tryz.ntmps197
 go_upto_region 1 with fail
 refine wp_worldZ (fun WW=>Below w.heap.size w WW∧ZV 31 3 WW w.heap.size (a:Int)∧ZV 31 3 WW (w.heap.size+1) (b:Int)∧ZL 31 WW (w.heap.size+1+1) false (.slice none 0 0)) (rm_start 31 3 (a:Int) (b:Int) av au cv cu w H0.out H1.out) ?_
 intro W1 ⟨yb1,z4,z5,z8⟩
 obtain ⟨g8,hg8⟩: ∃g,g=w.heap.size+1+1:=⟨_,rfl⟩
 obtain ⟨g5,hg5⟩: ∃g,g=w.heap.size+1:=⟨_,rfl⟩
 obtain ⟨g4,hg4⟩: ∃g,g=w.heap.size:=⟨_,rfl⟩
 have b8:w.heap.size≤g8:=by omega
 rw [←hg8] at z8 ⊢
 rw [←hg5] at z5 ⊢
 rw [←hg4] at z4
 rw [←hg4]
 clear hg8 hg5 hg4 H0 H1
 have HZ5:=hid z5
 obtain ⟨a4,c4,zl4,n4⟩:=z4
 obtain ⟨a5,c5,zl5,n5⟩:=z5
 have N4:=hid n4
 have N5:=hid n5
 obtain ⟨j0,j1,-⟩:=zl4
 obtain ⟨j2,j3,-⟩:=zl5
 clear n4 n5
 go_upto_region 2 with (go_at_call 118;(with_reducible refine (DV.out _ _ _ _ _ N4.out N5.out).mono ?_);rintro en w1 ⟨ao,ac,bo,bc,rfl,hq1,hr1,hb1⟩)
 refine wp_worldZ (fun WW=>Below w1.heap.size w1 WW∧ZV 31 3 WW w1.heap.size (q:Int)∧ZV 31 3 WW (w1.heap.size+1) (r:Int)) (zv_made2 hq1 hr1) ?_
 intro W2 ⟨yb2,z10,z11⟩
 obtain ⟨g11,hg11⟩: ∃g,g=w1.heap.size+1:=⟨_,rfl⟩
 obtain ⟨g10,hg10⟩: ∃g,g=w1.heap.size:=⟨_,rfl⟩
 have n810:g8≠g10:=by have:=z8.lt;have:=hb1.size;omega
 have b10:w.heap.size≤g10:=by have:=yb1.size;have:=hb1.size;omega
 rw [←hg11] at z11 ⊢
 rw [←hg10] at z10
 rw [←hg10]
 have z8':=(z8.below hb1).below yb2
 have z5':=(HZ5.out.below hb1).below yb2
 have y2:=below_trans (below_trans yb1 hb1) yb2
 clear hg11 hg10 j0 j1 j2 j3 hq1 hr1 hb1 yb2 yb1 N4 N5 DV z8 HZ5
 by_cases hr0:r=0
 ·have HC:CC=false:=HCC.out.trans (decide_eq_false (fun h=>h hr0))
  have HQ:=hid (show NN=q from HNN.out.trans (if_neg (fun h=>h.1 hr0)))
  have ZS0:=hid (show ∀a0 c0 w,Nz 3 w a0 c0 (zl (r:Int))→Calls Tryz.prog 121 #[.agg #[.bool (zneg (r:Int)),.slice a0 (zl (r:Int)).length c0]] w fun e w'=>e=.returned (.int .i64 0)∧Below w.heap.size w w' from fun a0 c0 w h=>by
   have h9:=ZS.out a0 c0 w h
   rw [hr0] at h9 ⊢
   exact h9)
  clear HNN HCC HUP HHF ZS hr0
  subst HC
  obtain ⟨a10,c10,zl10,n10⟩:=z10
  obtain ⟨a11,c11,zl11,n11⟩:=z11
  have N10:=hid n10
  have N11:=hid n11
  have HY:=hid y2
  have H8:=hid z8'
  have H10:=hid zl10
  obtain ⟨j0,j1,-⟩:=zl11
  clear n10 n11 z5' z8' y2 zl10
  go_upto_region 3 with (go_at_call 121;(with_reducible refine (ZS0.out _ _ _ N11.out).mono ?_);rintro en w3 ⟨rfl,hb3⟩)
  have z8:=H8.out.below hb3
  obtain ⟨j2,j3,-⟩:=H10.out.below hb3
  obtain ⟨k0,k1,kf0,kf1,-⟩:=id z8
  have zst:=zv_store1 (by decide) (below_trans HY.out hb3) b8 z8 (N10.out.below hb3)
  go_wp2_with fail
  obtain ⟨hbw,⟨a8,c8,zl8,n8⟩⟩:=zst
  obtain ⟨m0,m1,-⟩:=zl8
  refine bodyPost_ret (by simp [results,Tryz.results197,go_sem,m0,m1];try rfl) rfl ?_
  exact ⟨_,rfl,⟨_,_,by rw [HQ.out],by rw [HQ.out];exact n8⟩,hbw⟩
 ·have HC:CC=true:=HCC.out.trans (decide_eq_true hr0)
  have HQ:=hid (show (up=true→NN=q+1)∧(up=false→NN=q) from ⟨fun hu=>HNN.out.trans (if_pos ⟨hr0,hu⟩),fun hu=>HNN.out.trans (if_neg (fun h=>by rw [hu] at h;exact absurd h.2 (by simp)))⟩)
  have ZS1:=hid (show ∀a0 c0 w,Nz 3 w a0 c0 (zl (r:Int))→Calls Tryz.prog 121 #[.agg #[.bool (zneg (r:Int)),.slice a0 (zl (r:Int)).length c0]] w fun e w'=>e=.returned (.int .i64 1)∧Below w.heap.size w w' from fun a0 c0 w h=>by
   have h9:=ZS.out a0 c0 w h
   rwa [cmpI_g (show (0:Int)<(r:Int) by omega)] at h9)
  clear HNN HCC ZS hr0
  subst HC
  have HZ10:=hid z10
  have HZ11:=hid z11
  obtain ⟨a11,c11,zl11,n11⟩:=z11
  have N11:=hid n11
  obtain ⟨j0,j1,-⟩:=zl11
  have HY:=hid y2
  have H8:=hid z8'
  have H5:=hid z5'
  clear n11 z5' z8' y2 z10
  go_upto_region 4 with (go_at_call 121;(with_reducible refine (ZS1.out _ _ _ N11.out).mono ?_);rintro en w3 ⟨rfl,hb3⟩)
  have z10:=HZ10.out.below hb3
  have z11:=HZ11.out.below hb3
  have z5:=H5.out.below hb3
  have z8:=H8.out.below hb3
  have y3:=below_trans HY.out hb3
  clear HZ10 HZ11 H5 H8 HY N11 j0 j1 hb3 ZS1
  have HHF2:=hid (show cmpI ((r:Int)+(r:Int)) (b:Int)=half by rw [HHF.out];congr 1;omega)
  refine wp_region_grow 6 [26,27,28,29,30,12] [Fact.z 3 ((r:Int)),Fact.z 3 ((r:Int)),Fact.z 3 (((r:Int))+((r:Int))),Fact.z 3 ((b:Int)),Fact.is (.int .i64 (half)),Fact.is (.int .i64 (half))] (by kernel_rfl) (by kernel_rfl) ⟨?o0,?o1,?o2,?o3,?o4,?o5,trivial⟩ ?after
  case o0=>(refine oQ rfl ?_;intro ρ w1 R hcon hfn hρ hb hp hR;have e11:ρ (.tmp 11)=.pointer (some ⟨g11,0,none⟩):=hρ.tmp 11 rfl;obtain ⟨ya9,yc9,yj9,yn9⟩:=ZV.below z11 hb;obtain ⟨j90,j91,-⟩:=yj9;clear hρ hp;unfold OpRun;go_simp;exact hR _ _ (Below.refl _ _) ⟨ya9,yc9,rfl,yn9⟩)
  case o1=>(refine oQ rfl ?_;intro ρ w1 R hcon hfn hρ hb hp hR;have e11:ρ (.tmp 11)=.pointer (some ⟨g11,0,none⟩):=hρ.tmp 11 rfl;obtain ⟨ya9,yc9,yj9,yn9⟩:=ZV.below z11 hb;obtain ⟨j90,j91,-⟩:=yj9;clear hρ hp;unfold OpRun;go_simp;exact hR _ _ (Below.refl _ _) ⟨ya9,yc9,rfl,yn9⟩)
  case o2=>(refine oQ rfl ?_;intro ρ w1 R hcon hfn hρ hb hp hR;have f26:=hp 0 26 rfl rfl;have f27:=hp 1 27 rfl rfl;clear hρ hp;unfold OpRun;go_simp;(refine (zaddD _ _ _ _ _ f26 f27 (by first|assumption|omega) (by first|assumption|omega)).mono ?_;rintro e wn ⟨v9,rfl,hz9,hbn⟩;exact ⟨_,rfl,hR _ _ hbn hz9⟩))
  case o3=>(refine oQ rfl ?_;intro ρ w1 R hcon hfn hρ hb hp hR;have e5:ρ (.tmp 5)=.pointer (some ⟨g5,0,none⟩):=hρ.tmp 5 rfl;obtain ⟨ya9,yc9,yj9,yn9⟩:=ZV.below z5 hb;obtain ⟨j90,j91,-⟩:=yj9;clear hρ hp;unfold OpRun;go_simp;exact hR _ _ (Below.refl _ _) ⟨ya9,yc9,rfl,yn9⟩)
  case o4=>(refine oQ rfl ?_;intro ρ w1 R hcon hfn hρ hb hp hR;have f28:=hp 2 28 rfl rfl;have f29:=hp 3 29 rfl rfl;have h99:=zcmpD _ _ _ _ _ f28 f29;rw [HHF2.out] at h99;clear hρ hp;unfold OpRun;go_simp;(refine (h99).mono ?_;rintro e wn ⟨rfl,hbn⟩;exact ⟨_,rfl,hR _ _ hbn rfl⟩))
  case o5=>(refine oQ rfl ?_;intro ρ w1 R hcon hfn hρ hb hp hR;have e30:ρ (.tmp 30)=_:=hp 4 30 rfl rfl;clear hρ hp;unfold OpRun;go_simp;exact hR _ _ (Below.refl _ _) rfl)
  case after=>
   intro u wn hb hf
   have e12:u 12=_:=hf 5 12 (by omega) rfl
   clear hf
   simp only [putAll,Act.put,List.setIfInBounds_toArray,List.set_cons_zero,List.set_cons_succ,List.drop_succ_cons,List.drop_zero,List.drop_nil]
   rw [e12]
   go_upto_region 5 with fail
   have y4:=below_trans y3 hb
   have z10a:=z10.below hb
   have z8a:=z8.below hb
   obtain ⟨W4,hW4⟩: ∃W,W=wn:=⟨_,rfl⟩
   subst hW4
   clear z10 z11 z5 z8 y3 hb HHF HHF2
   have l2:(zl 2).length≤900000:=by decide
   refine wp_region_growL 8 5 [32,33,34,31,35,36,13,14] [Fact.z 3 ((q:Int)),Fact.z 3 (2),Fact.z2 3 (((q:Int))/(2)) (((q:Int))%(2)),Fact.z2 3 (((q:Int))/(2)) (((q:Int))%(2)),Fact.z 3 (((q:Int))/(2)),Fact.z 3 (((q:Int))%(2)),Fact.z0 W4.heap.size 31,Fact.z0 W4.heap.size 31] [6,7] (by kernel_rfl) (by kernel_rfl) rfl ⟨?o0,?o1,?o2,?o3,?o4,?o5,?o6,?o7,trivial⟩ ?late (fun d _ _ _ _ h=>by cases d<;>exact h) ?after
   case o0=>(refine oQF rfl ?_;intro ρ w1 R hcon hfn hρ hb hp hR;have e10:ρ (.tmp 10)=.pointer (some ⟨g10,0,none⟩):=hρ.tmp 10 rfl;obtain ⟨ya9,yc9,yj9,yn9⟩:=ZV.below z10a hb;obtain ⟨j90,j91,-⟩:=yj9;replace hR:=fun v w2 h1 h2=>hR v w2 h1 h2 (fun h=>absurd h (by decide));clear hρ hp;unfold OpRun;go_simp;exact hR _ _ (Below.refl _ _) ⟨ya9,yc9,rfl,yn9⟩)
   case o1=>(refine oQF rfl ?_;intro ρ w1 R hcon hfn hρ hb hp hR;replace hR:=fun v w2 h1 h2=>hR v w2 h1 h2 (fun h=>absurd h (by decide));clear hρ hp;unfold OpRun;go_simp;(refine (zND _ (by omega) (by omega) _).mono ?_;rintro e wn ⟨v9,rfl,hz9,hbn⟩;exact ⟨_,rfl,hR _ _ hbn hz9⟩))
   case o2=>(refine oQF rfl ?_;intro ρ w1 R hcon hfn hρ hb hp hR;have f32:=hp 0 32 rfl rfl;have f33:=hp 1 33 rfl rfl;replace hR:=fun v w2 h1 h2=>hR v w2 h1 h2 (fun h=>absurd h (by decide));clear hρ hp;unfold OpRun;go_simp;(refine (zdivD _ _ _ _ _ f32 f33 (by first|assumption|omega) (by first|assumption|omega) (by first|assumption|omega)).mono ?_;rintro e wn ⟨v9,rfl,hz9,hbn⟩;exact ⟨_,rfl,hR _ _ hbn hz9⟩))
   case o3=>(refine oQF rfl ?_;intro ρ w1 R hcon hfn hρ hb hp hR;have f34:=hp 2 34 rfl rfl;replace hR:=fun v w2 h1 h2=>hR v w2 h1 h2 (fun h=>absurd h (by decide));clear hρ hp;unfold OpRun;go_simp;exact hR _ _ (Below.refl _ _) f34)
   case o4=>(refine oQF rfl ?_;intro ρ w1 R hcon hfn hρ hb hp hR;have f31:=hp 3 31 rfl rfl;replace hR:=fun v w2 h1 h2=>hR v w2 h1 h2 (fun h=>absurd h (by decide));clear hρ hp;unfold OpRun;go_simp;(obtain ⟨a97,b97,e97,h97,k97⟩:=ZD2.parts f31;rw [e97];exact hR _ _ (Below.refl _ _) h97))
   case o5=>(refine oQF rfl ?_;intro ρ w1 R hcon hfn hρ hb hp hR;have f31:=hp 3 31 rfl rfl;replace hR:=fun v w2 h1 h2=>hR v w2 h1 h2 (fun h=>absurd h (by decide));clear hρ hp;unfold OpRun;go_simp;(obtain ⟨a97,b97,e97,h97,k97⟩:=ZD2.parts f31;rw [e97];exact hR _ _ (Below.refl _ _) k97))
   case o6=>(refine oQF rfl ?_;intro ρ w1 R hcon hfn hρ hb hp hR;clear hρ hp;unfold OpRun;go_simp;exact hR _ _ (below_alloc _ _) ⟨_,rfl,hb.size,ZL.made rfl⟩ (fun _=>⟨_,rfl,Nat.le_refl _,by simp⟩))
   case o7=>(refine oQF rfl ?_;intro ρ w1 R hcon hfn hρ hb hp hR;clear hρ hp;unfold OpRun;go_simp;exact hR _ _ (below_alloc _ _) ⟨_,rfl,hb.size,ZL.made rfl⟩ (fun _=>⟨_,rfl,Nat.le_refl _,by simp⟩))
   case late=>
    intro o ho
    simp only [List.getElem?_cons_succ,List.getElem?_cons_zero,Option.some.injEq] at ho
    subst ho
    refine ⟨rfl,?_⟩
    intro ρ w1 hρ hb hp
    have f31:=hp 3 31 rfl rfl
    obtain ⟨a97,b97,e97,h97,k97⟩:=ZD2.parts f31
    refine ⟨_,?_,k97⟩
    intro w2
    have hcon:=hρ.con
    go_simp
    try rfl
   case after=>
    intro u wn hb hf hd
    have f35:=hf 4 35 (by omega) rfl
    have f36:=hf 5 36 (by omega) rfl
    have f13:=hf 6 13 (by omega) rfl
    have f14:=hf 7 14 (by omega) rfl
    have d13_14:u 13≠u 14:=hd 6 7 13 14 (by omega) (by omega) (by omega) rfl rfl rfl rfl
    clear hf hd
    simp only [putAll,Act.put,List.setIfInBounds_toArray,List.set_cons_zero,List.set_cons_succ,List.drop_succ_cons,List.drop_zero,List.drop_nil]
    obtain ⟨xa1,xc1,xe1,xn1⟩:=f35
    obtain ⟨xa2,xc2,xe2,xn2⟩:=f36
    obtain ⟨gv13,eg1,hg1,zz1⟩:=f13
    obtain ⟨gv14,eg2,hg2,zz2⟩:=f14
    have gne:gv13≠gv14:=by intro h;apply d13_14;rw [eg1,eg2,h]
    rw [xe1,xe2,eg1,eg2]
    clear xe1 xe2 eg1 eg2 d13_14
    have zst:=zv_store2 (by decide) hb hg1 hg2 gne zz1 zz2 xn1 xn2
    obtain ⟨k0,k1,kf0,kf1,-⟩:=id zz1
    obtain ⟨l0,l1,lf0,lf1,-⟩:=id zz2
    go_upto_region 6 with fail
    clear k0 k1 kf0 kf1 l0 l1 lf0 lf1 zz1 zz2 xn1 xn2 hb
    refine wp_worldZ (fun WW=>Below _ _ WW∧ZV _ _ WW _ _∧ZV _ _ WW _ _) zst ?_
    clear zst
    intro W5 ⟨y5,z13,z14⟩
    have y6:=below_trans y4 y5
    have z10b:=z10a.below y5
    have z8b:=z8a.below y5
    clear z10a z8a z13 y4 hg1 hg2 gne
    have HY6:=hid y6
    have H10:=hid z10b
    have H8:=hid z8b
    clear y6 z10b z8b y5
    obtain ⟨a14,c14,zl14,n14⟩:=z14
    have N14:=hid n14
    clear n14
    have ZQ:=hid (fun a0 c0 w h=>zsign_any a0 c0 ((q:Int)%2) w h)
    obtain ⟨j0,j1,-⟩:=zl14
    go_cut [15] (fun s15 wx=>s15=.bool up∧Below W5.heap.size W5 wx)
    case first=>as_aux_lemma=>
     clear HQ H10 H8 HY6
     rcases (show mode=0∨mode=1∨mode=2∨mode=3∨mode=4 by omega) with rfl|rfl|rfl|rfl|rfl
     ·by_cases h1:0<half
      ·have HE:=hid (show up=true by rw [HUP.out];simp [upN,h1])
       clear HUP
       go_wp2_with fail
       go_meet
       exact ⟨by rw [HE.out],Below.refl _ _⟩
      ·by_cases h2:half=0
       ·subst h2
        by_cases ho:q%2=1
        ·have HE:=hid (show up=true by rw [HUP.out];simp [upN,ho])
         have ZQ1:=hid (show ∀w,Nz 3 w a14 c14 (zl ((q:Int)%2))→Calls Tryz.prog 121 #[.agg #[.bool (zneg ((q:Int)%2)),.slice a14 (zl ((q:Int)%2)).length c14]] w fun e w'=>e=.returned (.int .i64 1)∧Below w.heap.size w w' from fun w h=>by
          have h9:=ZQ.out a14 c14 w h
          rwa [cmpI_g (show (0:Int)<(q:Int)%2 by omega)] at h9)
         clear HUP ho ZQ
         go_wp2_with (go_at_call 121;(with_reducible refine (ZQ1.out _ N14.out).mono ?_);rintro en w6 ⟨rfl,hb6⟩)
         go_meet
         exact ⟨by rw [HE.out],hb6⟩
        ·have HE:=hid (show up=false by rw [HUP.out];simp [upN,ho])
         have ZQ1:=hid (show ∀w,Nz 3 w a14 c14 (zl ((q:Int)%2))→Calls Tryz.prog 121 #[.agg #[.bool (zneg ((q:Int)%2)),.slice a14 (zl ((q:Int)%2)).length c14]] w fun e w'=>e=.returned (.int .i64 0)∧Below w.heap.size w w' from fun w h=>by
          have h9:=ZQ.out a14 c14 w h
          rwa [cmpI_e (show (q:Int)%2=0 by omega)] at h9)
         clear HUP ho ZQ
         go_wp2_with (go_at_call 121;(with_reducible refine (ZQ1.out _ N14.out).mono ?_);rintro en w6 ⟨rfl,hb6⟩)
         go_meet
         exact ⟨by rw [HE.out],hb6⟩
       ·have HE:=hid (show up=false by rw [HUP.out];simp [upN,h1,h2])
        have h3:(half==0)=false:=beq_eq_false_iff_ne.2 h2
        have h4:decide (0<half)=false:=decide_eq_false h1
        clear HUP h1 h2
        go_wp2_with fail
        go_meet
        exact ⟨by rw [HE.out],Below.refl _ _⟩
     ·cases neg
      ·have HE:=hid (show up=true by rw [HUP.out];simp [upN])
       clear HUP
       go_wp2_with fail
       go_meet
       exact ⟨by rw [HE.out],Below.refl _ _⟩
      ·have HE:=hid (show up=false by rw [HUP.out];simp [upN])
       clear HUP
       go_wp2_with fail
       go_meet
       exact ⟨by rw [HE.out],Below.refl _ _⟩
     ·cases neg
      ·have HE:=hid (show up=false by rw [HUP.out];simp [upN])
       clear HUP
       go_wp2_with fail
       go_meet
       exact ⟨by rw [HE.out],Below.refl _ _⟩
      ·have HE:=hid (show up=true by rw [HUP.out];simp [upN])
       clear HUP
       go_wp2_with fail
       go_meet
       exact ⟨by rw [HE.out],Below.refl _ _⟩
     ·have HE:=hid (show up=false by rw [HUP.out];simp [upN])
      clear HUP
      go_wp2_with fail
      go_meet
      exact ⟨by rw [HE.out],Below.refl _ _⟩
     ·have HE:=hid (show up=decide (0≤half) by rw [HUP.out];simp [upN])
      clear HUP
      go_wp2_with fail
      go_meet
      exact ⟨by rw [HE.out],Below.refl _ _⟩
    case rest=>
     obtain ⟨rfl,y7⟩:=hcut
     obtain ⟨W7,hW7⟩: ∃W,W=wc:=⟨_,rfl⟩
     subst hW7
     have z10:=H10.out.below y7
     have z8:=H8.out.below y7
     have y8:=below_trans HY6.out y7
     clear H10 H8 HY6 y7 N14 ZQ j0 j1 HUP
     cases up
     ·have HN:=HQ.out.2 rfl
      rw [←HN] at z10
      clear HQ HN
      obtain ⟨a10,c10,zl10,n10⟩:=z10
      obtain ⟨j2,j3,-⟩:=zl10
      have zst:=zv_store1 (by decide) y8 b8 z8 n10
      obtain ⟨k0,k1,kf0,kf1,-⟩:=id z8
      clear n10 y8
      go_wp2_with fail
      obtain ⟨hbw,⟨a8,c8,zl8,n8⟩⟩:=zst
      obtain ⟨m0,m1,-⟩:=zl8
      refine bodyPost_ret (by simp [results,Tryz.results197,go_sem,m0,m1];try rfl) rfl ?_
      exact ⟨_,rfl,⟨_,_,rfl,n8⟩,hbw⟩
     ·have HN:=HQ.out.1 rfl
      clear HQ
      have HEQ:=hid (show (q:Int)+1=(NN:Int) by rw [HN];omega)
      clear HN
      go_upto_region 8 with fail
      have l1:(zl 1).length≤900000:=by decide
      refine wp_region_grow 3 [76,77,78] [Fact.z 3 ((q:Int)),Fact.z 3 (1),Fact.z 3 ((NN:Int))] (by kernel_rfl) (by kernel_rfl) ⟨?o0,?o1,?o2,trivial⟩ ?after
      case o0=>(refine oQ rfl ?_;intro ρ w1 R hcon hfn hρ hb hp hR;have e10:ρ (.tmp 10)=.pointer (some ⟨g10,0,none⟩):=hρ.tmp 10 rfl;obtain ⟨ya9,yc9,yj9,yn9⟩:=ZV.below z10 hb;obtain ⟨j90,j91,-⟩:=yj9;clear hρ hp;unfold OpRun;go_simp;exact hR _ _ (Below.refl _ _) ⟨ya9,yc9,rfl,yn9⟩)
      case o1=>(refine oQ rfl ?_;intro ρ w1 R hcon hfn hρ hb hp hR;clear hρ hp;unfold OpRun;go_simp;(refine (zND _ (by omega) (by omega) _).mono ?_;rintro e wn ⟨v9,rfl,hz9,hbn⟩;exact ⟨_,rfl,hR _ _ hbn hz9⟩))
      case o2=>(refine oQ rfl ?_;intro ρ w1 R hcon hfn hρ hb hp hR;have f76:=hp 0 76 rfl rfl;have f77:=hp 1 77 rfl rfl;clear hρ hp;unfold OpRun;go_simp;(refine (zaddD _ _ _ _ _ f76 f77 (by first|assumption|omega) (by first|assumption|omega)).mono ?_;rintro e wn ⟨v9,rfl,hz9,hbn⟩;exact ⟨_,rfl,hR _ _ hbn (ZD.cast hz9 HEQ.out)⟩))
      case after=>
       intro u wn hb hf
       have f78:=hf 2 78 (by omega) rfl
       clear hf
       simp only [putAll,Act.put,List.setIfInBounds_toArray,List.set_cons_zero,List.set_cons_succ,List.drop_succ_cons,List.drop_zero,List.drop_nil]
       obtain ⟨a78,c78,e78,n78⟩:=f78
       rw [e78]
       clear e78
       have z10a:=z10.below hb
       have z8a:=z8.below hb
       have y9:=below_trans y8 hb
       obtain ⟨x10,d10,zl10,-⟩:=z10a
       have zs:=zv_store1 (by decide) y9 b10 zl10 n78
       have z8b:=(z8a.far ⟨g10,0,none⟩ (.bool (zneg (NN:Int))) n810).far ⟨g10,1,none⟩ (.slice a78 (zl (NN:Int)).length c78) n810
       obtain ⟨k0,k1,kf0,kf1,-⟩:=id zl10
       clear hb z10 z8 z8a y8 y9 n78
       go_upto_region 9 with fail
       refine wp_worldZ (fun WW=>(Below w.heap.size w WW∧ZV 31 3 WW g10 (NN:Int))∧ZL 31 WW g8 false (.slice none 0 0)) ⟨zs,z8b⟩ ?_
       intro W9 ⟨⟨y9,z10⟩,z8⟩
       clear zs z8b k0 k1 kf0 kf1
       obtain ⟨a10,c10,zl10,n10⟩:=z10
       obtain ⟨j2,j3,-⟩:=zl10
       have zst:=zv_store1 (by decide) y9 b8 z8 n10
       obtain ⟨k0,k1,kf0,kf1,-⟩:=id z8
       clear n10 y9
       go_wp2_with fail
       obtain ⟨hbw,⟨a8,c8,zl8,n8⟩⟩:=zst
       obtain ⟨m0,m1,-⟩:=zl8
       refine bodyPost_ret (by simp [results,Tryz.results197,go_sem,m0,m1];try rfl) rfl ?_
       exact ⟨_,rfl,⟨_,_,rfl,n8⟩,hbw⟩
end Go.Proofs.YtfphmlmgjhebjaaGreatDoor
namespace Go.Ulp
open Go.RowKit
theorem limbs_short2 (A n:Nat) (hn:A≤32*n) (M:Nat) (h:M<2^A):(limbs M).length≤n:=
 (limbs_le_bits M n).2 (Nat.lt_of_lt_of_le h (Nat.pow_le_pow_right (by omega) hn))
theorem limbs_ten (s:Nat) (h:s≤24002):(limbs (10^s)).length≤3002:=by
 refine limbs_short2 (4*s+1) 3002 (by omega) _ ?_
 rw [Nat.pow_succ,Nat.pow_mul]
 have h1:(10:Nat)^s≤(2^4)^s:=Nat.pow_le_pow_left (by decide) s
 have h2:0<(10:Nat)^s:=Nat.pow_pos (by omega)
 omega
def RtAt (w:World) (g:Nat) (neg:Bool) (a b:Nat):Prop:= ∃an cn bn dn,w.cell? ⟨g,0,none⟩=some (.bool neg)∧w.cell? ⟨g,3,none⟩=some (.slice an (limbs a).length cn)∧w.cell? ⟨g,4,none⟩=some (.slice bn (limbs b).length dn)∧Ns .u32 w an cn (limbs a)∧Ns .u32 w bn dn (limbs b)
theorem RtAt.below {w w':World} {g:Nat} {neg:Bool} {a b:Nat} (h:RtAt w g neg a b) (hb:Below w.heap.size w w'):RtAt w' g neg a b:=by
 obtain ⟨an,cn,bn,dn,h1,h2,h3,h4,h5⟩:=h
 exact ⟨an,cn,bn,dn,(hb.cell (World.block_lt_of_cell? _ _ h1)).trans h1,(hb.cell (World.block_lt_of_cell? _ _ h2)).trans h2,(hb.cell (World.block_lt_of_cell? _ _ h3)).trans h3,h4.below hb,h5.below hb⟩
def Fact.nn2 (q r:Nat):Fact:=⟨fun v w=> ∃a c b d,v=.tuple #[.slice a (limbs q).length c,.slice b (limbs r).length d]∧Ns .u32 w a c (limbs q)∧Ns .u32 w b d (limbs r),fun _ _ _ h hb=>by
 obtain ⟨a,c,b,d,h1,h2,h3⟩:=h;exact ⟨a,c,b,d,h1,h2.below hb,h3.below hb⟩⟩
def RetNB (w:World) (n:Nat) (c:Bool) (e:Ending) (w':World):Prop:=
 ∃ao cap,e=.returned (.tuple #[.slice ao (limbs n).length cap,.bool c])∧Ns .u32 w' ao cap (limbs n)∧Below w.heap.size w w'
end Go.Ulp
namespace Go.Proofs.YtfphmlmgjhebjaaGreatDoor
open Go.RowKit Go.Ulp
set_option maxHeartbeats 1000000
set_option maxRecDepth 100000
theorem pow10_any (n:Nat) (hn:n≤12000) (w:World):Calls Tryz.prog 159 #[.int .u64 10,.int .i64 (n:Int)] w (RetNc w (10^n)):=by
 have O1:=hid (show ∀w,Calls Tryz.prog 95 #[.int .u64 1] w fun e w'=>RetN w 1 e w' from fun w=>natOf_any 1 (by omega) w)
 have O10:=hid (show ∀w,Calls Tryz.prog 95 #[.int .u64 10] w fun e w'=>RetN w 10 e w' from fun w=>natOf_any 10 (by omega) w)
 go_enter Tryz.func159,Tryz.ntmps159
 go_wp2_with (go_at_call 95;(first
  |((with_reducible refine (O1.out _).mono ?_);rintro en w1 ⟨a1,rfl,hN1,hb1⟩)
  |((with_reducible refine (O10.out _).mono ?_);rintro en w2 ⟨a2,rfl,hN2,hb2⟩)))
 go_loopw [1,5,6] (fun s1 s5 s6 wr=> ∃(k s t:Nat) (b5:Option Addr) (c5:Nat) (b6:Option Addr) (c6:Nat),s1=.int .i64 (k:Int)∧s5=.slice b5 (limbs (10^s)).length c5∧s6=.slice b6 (limbs (10^t)).length c6∧Ns .u32 wr b5 c5 (limbs (10^s))∧Ns .u32 wr b6 c6 (limbs (10^t))∧s+t*k=n∧t≤2*n+1∧k≤n∧Below w.heap.size w wr) (fun s1 _ _ _=>(intOf s1).toNat)
 case atStart=>exact ⟨n,0,1,a1,_,a2,_,rfl,rfl,rfl,hN1.below hb2,hN2,by omega,by omega,by omega,below_trans hb1 hb2⟩
 case round=>
  obtain ⟨k,s,t,b5,c5,b6,c6,rfl,rfl,rfl,h5,h6,hst,ht,hkn,hb⟩:=hrel
  by_cases hk:0<k
  ·have htn:t≤n:=by have:=Nat.le_mul_of_pos_right t hk;omega
   have ls:=limbs_ten s (by omega)
   have lt:=limbs_ten t (by omega)
   have TI:=hid (show ∀w,Ns .u32 w b5 c5 (limbs (10^s))→Ns .u32 w b6 c6 (limbs (10^t))→Calls Tryz.prog 157 #[.slice b5 (limbs (10^s)).length c5,.slice b6 (limbs (10^t)).length c6] w fun e w'=>RetN w (10^(s+t)) e w' from fun w h0 h1=>by
    rw [Nat.pow_add]
    exact times_any b5 b6 c5 c6 (10^s) (10^t) w h0 h1 (by omega) (by omega))
   have TX:=hid (show ∀w,Ns .u32 w b6 c6 (limbs (10^t))→Calls Tryz.prog 157 #[.slice b6 (limbs (10^t)).length c6,.slice b6 (limbs (10^t)).length c6] w fun e w'=>RetN w (10^(t+t)) e w' from fun w h0=>by
    rw [Nat.pow_add]
    exact times_any b6 b6 c6 c6 (10^t) (10^t) w h0 h0 (by omega) (by omega))
   have H5:=hid h5
   have H6:=hid h6
   have HS:=hid (show (t+t)*(k/2)=t*(2*(k/2)) by rw [←Nat.two_mul,Nat.mul_comm 2 t,Nat.mul_assoc])
   have HO:=hid (show k%2=1→s+t+(t+t)*(k/2)=n from fun h=>by
    have h3:t*k=t*(2*(k/2))+t:=by
     have h4:t*k=t*(2*(k/2)+1):=congrArg (t * ·) (by omega)
     rw [h4];exact Nat.mul_succ _ _
    have:=HS.out
    omega)
   have HE:=hid (show ¬k%2=1→s+(t+t)*(k/2)=n from fun h=>by
    have h4:t*k=t*(2*(k/2)):=congrArg (t * ·) (by omega)
    have:=HS.out
    omega)
   clear ls lt h5 h6 hst
   by_cases ho:k%2=1
   ·have ho2:(k:Int)%2=1:=by omega
    go_wp2_with (go_at_call 157;(first
     |((with_reducible refine (TI.out _ H5.out H6.out).mono ?_);rintro en w3 ⟨a3,rfl,hN3,hb3⟩)
     |((with_reducible refine (TX.out _ (H6.out.below hb3)).mono ?_);rintro en w4 ⟨a4,rfl,hN4,hb4⟩)))
    go_roundw
    case rel=>exact ⟨k/2,s+t,t+t,a3,_,a4,_,by go_num,rfl,rfl,hN3.below hb4,hN4,HO.out ho,by omega,by omega,below_trans (below_trans hb hb3) hb4⟩
    case measure=>simp [intOf];omega
   ·have ho2:(k:Int)%2=0:=by omega
    clear TI
    go_wp2_with (go_at_call 157;(with_reducible refine (TX.out _ H6.out).mono ?_);rintro en w4 ⟨a4,rfl,hN4,hb4⟩)
    go_roundw
    case rel=>exact ⟨k/2,s,t+t,b5,_,a4,_,by go_num,rfl,rfl,H5.out.below hb4,hN4,HE.out ho,by omega,by omega,below_trans hb hb4⟩
    case measure=>simp [intOf];omega
  ·have hk0:k=0:=by omega
   subst hk0
   have e:s=n:=by omega
   subst e
   have H5:=hid h5
   clear h5 h6 hst
   go_wp2_with fail
   go_ret
   exact ⟨b5,c5,rfl,H5.out,hb⟩
theorem ratioRound_any (g:Nat) (neg:Bool) (a b:Nat) (mode:Int) (w:World) (h:RtAt w g neg a b) (ha:(limbs a).length≤1000000) (hb:0<b) (hb2:(limbs b).length≤1000000):
 Calls Tryz.prog 183 #[.pointer (some ⟨g,0,none⟩),.int .i64 mode] w (RetNB w (rtN neg a b mode) (rtC a b)):=by
 obtain ⟨an,cn,bn,dn,k0,k3,k4,hN0,hN1⟩:=h
 obtain ⟨q,hq⟩: ∃q,q=a/b:=⟨_,rfl⟩
 obtain ⟨r,hr⟩: ∃r,r=a%b:=⟨_,rfl⟩
 have OV:=hid (fun w h0 h1=>over_any an bn cn dn a b w h0 h1 ha hb)
 have hql:(limbs q).length≤(limbs a).length:=limbs_len_mono (by rw [hq];exact Nat.div_le_self _ _)
 have hrl:(limbs r).length≤(limbs b).length:=limbs_len_mono (by rw [hr];exact Nat.le_of_lt (Nat.mod_lt _ hb))
 obtain ⟨half,hhalf⟩: ∃x,x=cmpI ((2*r:Nat):Int) (b:Int):=⟨_,rfl⟩
 obtain ⟨up,hup⟩: ∃x,x=upN neg (decide (q%2=1)) half mode:=⟨_,rfl⟩
 have HN:rtN neg a b mode=if r≠0∧up=true then q+1 else q:=by unfold rtN;rw [←hq,←hr,←hhalf,←hup]
 have HC:rtC a b=decide (r≠0):=by unfold rtC;rw [←hr]
 rw [HN,HC]
 rw [←hq,←hr] at OV
 obtain ⟨NN,hNN⟩: ∃N,N=if r≠0∧up=true then q+1 else q:=⟨_,rfl⟩
 obtain ⟨CC,hCC⟩: ∃C,C=decide (r≠0):=⟨_,rfl⟩
 rw [←hNN,←hCC]
 have HNN:=hid hNN
 have HCC:=hid hCC
 clear hNN hCC
 have LE:=hid (show ∀a c w,Ns .u32 w a c (limbs r)→Calls Tryz.prog 172 #[.slice a (limbs r).length c,.int .i64 1] w fun e w'=>RetN w (2*r) e w' from fun a c w k=>by
  have h9:=leftN_any a c r 1 w k (by omega) (by omega)
  rw [Nat.pow_one,Nat.mul_comm] at h9
  exact h9)
 have CM:=hid (show ∀x c w,Ns .u32 w x c (limbs (2*r))→Ns .u32 w bn dn (limbs b)→Calls Tryz.prog 210 #[.slice x (limbs (2*r)).length c,.slice bn (limbs b).length dn] w fun e w'=>e=.returned (.int .i64 half)∧Below w.heap.size w w' from fun x c w k0 k1=>by
  have h9:=compare_any x bn c dn (2*r) b w k0 k1
  rw [←hhalf] at h9
  exact h9.mono fun e w' ⟨h1,nq,h2⟩=>⟨h1,by rw [h2];exact below_drewN (Below.refl _ _) nq⟩)
 have PL:=hid (show ∀a b c d w,Ns .u32 w a c (limbs q)→Ns .u32 w b d (limbs 1)→Calls Tryz.prog 163 #[.slice a (limbs q).length c,.slice b (limbs 1).length d] w fun e w'=>RetN w (q+1) e w' from fun a b c d w k0 k1=>plus_any a b c d q 1 w k0 k1 (by omega) (by
  have:(limbs 1).length≤1:=(digs_len_le 4294967296 (by omega) 1 1).2 (by omega)
  omega))
 have OF:=hid (show ∀w,Calls Tryz.prog 95 #[.int .u64 1] w fun e w'=>RetN w 1 e w' from fun w=>natOf_any 1 (by omega) w)
 have UP:=hid (fun od w (h:od=decide (q%2=1))=>show Calls Tryz.prog 214 #[.bool neg,.bool od,.int .i64 half,.int .i64 mode] w fun e w'=>e=.returned (.bool up)∧w=w' from by subst h;rw [hup];exact up_any _ _ _ _ w)
 have N0:=hid hN0
 have N1:=hid hN1
 have hcn:=hN0.1
 have hcn2:=hN0.2.1
 have hdn:=hN1.1
 have hdn2:=hN1.2.1
 unfold maxLen at hcn2 hdn2
 clear hN0 hN1 HN HC hup hhalf hq hr ha hb hb2 hql hrl
 go_enter Tryz.func183,Tryz.ntmps183
 go_wp2_with fail
 refine wp_region_grow 14 [10,11,12,13,14,15,16,17,18,9,19,20,6,7] [Fact.is (.pointer (some ⟨g,0,none⟩)),Fact.is (.pointer (some ⟨g,0,none⟩)),Fact.is (.pointer (some ⟨g,3,none⟩)),Fact.is (.slice an (limbs a).length cn),Fact.is (.pointer (some ⟨g,0,none⟩)),Fact.is (.pointer (some ⟨g,0,none⟩)),Fact.is (.pointer (some ⟨g,4,none⟩)),Fact.is (.slice bn (limbs b).length dn),Fact.nn2 q r,Fact.nn2 q r,Fact.li q,Fact.li r,Fact.li q,Fact.li r] (by kernel_rfl) (by kernel_rfl) ⟨?o0,?o1,?o2,?o3,?o4,?o5,?o6,?o7,?o8,?o9,?o10,?o11,?o12,?o13,trivial⟩ ?after
 case o0=>(refine oQ rfl ?_;intro ρ w1 R hcon hfn hρ hb hp hR;have e0:ρ (.tmp 0)=.pointer (some ⟨g,0,none⟩):=hρ.tmp 0 rfl;clear hρ hp;unfold OpRun;go_simp;exact hR _ _ (Below.refl _ _) rfl)
 case o1=>(refine oQ rfl ?_;intro ρ w1 R hcon hfn hρ hb hp hR;have e10:ρ (.tmp 10)=_:=hp 0 10 rfl rfl;clear hρ hp;unfold OpRun;go_simp;exact hR _ _ (Below.refl _ _) rfl)
 case o2=>(refine oQ rfl ?_;intro ρ w1 R hcon hfn hρ hb hp hR;have e11:ρ (.tmp 11)=_:=hp 1 11 rfl rfl;clear hρ hp;unfold OpRun;go_simp;exact hR _ _ (Below.refl _ _) rfl)
 case o3=>(refine oQ rfl ?_;intro ρ w1 R hcon hfn hρ hb hp hR;have e12:ρ (.tmp 12)=_:=hp 2 12 rfl rfl;have j3:=(hb.cell (World.block_lt_of_cell? _ _ k3)).trans k3;clear hρ hp;unfold OpRun;go_simp;exact hR _ _ (Below.refl _ _) rfl)
 case o4=>(refine oQ rfl ?_;intro ρ w1 R hcon hfn hρ hb hp hR;have e0:ρ (.tmp 0)=.pointer (some ⟨g,0,none⟩):=hρ.tmp 0 rfl;clear hρ hp;unfold OpRun;go_simp;exact hR _ _ (Below.refl _ _) rfl)
 case o5=>(refine oQ rfl ?_;intro ρ w1 R hcon hfn hρ hb hp hR;have e14:ρ (.tmp 14)=_:=hp 4 14 rfl rfl;clear hρ hp;unfold OpRun;go_simp;exact hR _ _ (Below.refl _ _) rfl)
 case o6=>(refine oQ rfl ?_;intro ρ w1 R hcon hfn hρ hb hp hR;have e15:ρ (.tmp 15)=_:=hp 5 15 rfl rfl;clear hρ hp;unfold OpRun;go_simp;exact hR _ _ (Below.refl _ _) rfl)
 case o7=>(refine oQ rfl ?_;intro ρ w1 R hcon hfn hρ hb hp hR;have e16:ρ (.tmp 16)=_:=hp 6 16 rfl rfl;have j4:=(hb.cell (World.block_lt_of_cell? _ _ k4)).trans k4;clear hρ hp;unfold OpRun;go_simp;exact hR _ _ (Below.refl _ _) rfl)
 case o8=>(refine oQ rfl ?_;intro ρ w1 R hcon hfn hρ hb hp hR;have e13:ρ (.tmp 13)=_:=hp 3 13 rfl rfl;have e17:ρ (.tmp 17)=_:=hp 7 17 rfl rfl;clear hρ hp;unfold OpRun;go_simp;(refine (OV.out _ (N0.out.below hb) (N1.out.below hb)).mono ?_;rintro e wn ⟨aq,cq,ar,cr,rfl,hq9,hr9,hbn⟩;exact ⟨_,rfl,hR _ _ hbn ⟨aq,cq,ar,cr,rfl,hq9,hr9⟩⟩))
 case o9=>(refine oQ rfl ?_;intro ρ w1 R hcon hfn hρ hb hp hR;have f18:=hp 8 18 rfl rfl;clear hρ hp;unfold OpRun;go_simp;exact hR _ _ (Below.refl _ _) f18)
 case o10=>(refine oQ rfl ?_;intro ρ w1 R hcon hfn hρ hb hp hR;have f9:=hp 9 9 rfl rfl;clear hρ hp;unfold OpRun;go_simp;(obtain ⟨aq,cq,ar,cr,e9,hq9,hr9⟩:=f9;rw [e9];exact hR _ _ (Below.refl _ _) ⟨_,_,rfl,hq9⟩))
 case o11=>(refine oQ rfl ?_;intro ρ w1 R hcon hfn hρ hb hp hR;have f9:=hp 9 9 rfl rfl;clear hρ hp;unfold OpRun;go_simp;(obtain ⟨aq,cq,ar,cr,e9,hq9,hr9⟩:=f9;rw [e9];exact hR _ _ (Below.refl _ _) ⟨_,_,rfl,hr9⟩))
 case o12=>(refine oQ rfl ?_;intro ρ w1 R hcon hfn hρ hb hp hR;have f19:=hp 10 19 rfl rfl;clear hρ hp;unfold OpRun;go_simp;exact hR _ _ (Below.refl _ _) f19)
 case o13=>(refine oQ rfl ?_;intro ρ w1 R hcon hfn hρ hb hp hR;have f20:=hp 11 20 rfl rfl;clear hρ hp;unfold OpRun;go_simp;exact hR _ _ (Below.refl _ _) f20)
 case after=>
  intro u wn hb hf
  have f6:=hf 12 6 (by omega) rfl
  have f7:=hf 13 7 (by omega) rfl
  clear hf
  simp only [putAll,Act.put,List.setIfInBounds_toArray,List.set_cons_zero,List.set_cons_succ,List.drop_succ_cons,List.drop_zero,List.drop_nil]
  obtain ⟨aq,cq,e6,hNq⟩:=f6
  obtain ⟨ar,cr,e7,hNr⟩:=f7
  rw [e6,e7]
  clear e6 e7
  have hcq:=hNq.1
  have hcq2:=hNq.2.1
  have hcr:=hNr.1
  have hcr2:=hNr.2.1
  unfold maxLen at hcq2 hcr2
  have NQ:=hid hNq
  have NR:=hid hNr
  have yb1:=hb
  clear hb
  obtain ⟨w1,hw1⟩: ∃W,W=wn:=⟨_,rfl⟩
  subst hw1
  have K0:=hid ((yb1.cell (World.block_lt_of_cell? _ _ k0)).trans k0)
  have K4:=hid ((yb1.cell (World.block_lt_of_cell? _ _ k4)).trans k4)
  have N1':=hid (N1.out.below yb1)
  clear N0 N1 k0 k3 k4 OV
  by_cases hr0:r=0
  ·have hl0:(limbs r).length=0:=by rw [hr0];rfl
   have HC:CC=false:=HCC.out.trans (decide_eq_false (fun h=>h hr0))
   have HQ:NN=q:=HNN.out.trans (if_neg (fun h=>h.1 hr0))
   clear HNN HCC
   subst HC
   clear hr0
   have HQQ:=hid HQ
   clear HQ
   go_wp2_with fail
   go_ret2
   rw [HQQ.out]
   exact ⟨aq,cq,rfl,NQ.out,yb1⟩
  ·have hl0:0<(limbs r).length:=by
    rcases Nat.eq_zero_or_pos (limbs r).length with h9|h9
    ·have:=(limbs_nil r).1 (List.length_eq_zero_iff.1 h9);omega
    ·exact h9
   have HC:CC=true:=HCC.out.trans (decide_eq_true hr0)
   have HQ:=hid (show (up=true→NN=q+1)∧(up=false→NN=q) from ⟨fun hu=>HNN.out.trans (if_pos ⟨hr0,hu⟩),fun hu=>HNN.out.trans (if_neg (fun h=>by rw [hu] at h;exact absurd h.2 (by simp)))⟩)
   have hne:(((limbs r).length:Int)==0)=false:=beq_eq_false_iff_ne.2 (by omega)
   clear HNN HCC
   subst HC
   clear hr0
   go_upto_region 4 with fail
   go_cut [8] (fun s8 wx=>s8=.bool (decide (q%2=1))∧wx=w1)
   case first=>
    by_cases hq0:(limbs q).length=0
    ·have hqz:q=0:=(limbs_nil q).1 (List.length_eq_zero_iff.1 hq0)
     have HO:=hid (show decide (q%2=1)=false by rw [hqz];rfl)
     have hq1:decide (0<(limbs q).length)=false:=decide_eq_false (by omega)
     clear hqz hq0
     go_wp2_with fail
     go_meet
     exact ⟨by rw [HO.out],rfl⟩
    ·obtain ⟨b1,o1,rfl,hc1⟩:=NQ.out.2.2 (by omega)
     obtain ⟨x,hx⟩: ∃x,x=(limbs q).getD 0 0:=⟨_,rfl⟩
     have k1:w1.cell? ⟨b1,o1,none⟩=some (.int .u32 (x:Int)):=by have:=hc1 0 (by omega);rw [hx];exact this
     have hxo:x%2=q%2:=by rw [hx];exact limbs_odd q (by omega)
     have hx2:x<4294967296:=by rw [hx];exact (limbs_lim q).getD (by omega) 0
     have hpos:0<(limbs q).length:=by omega
     have HO:=hid (show ((x:Int)%2==1)=decide (q%2=1) by rw [Bool.eq_iff_iff,beq_iff_eq,decide_eq_true_eq];omega)
     clear hc1 hx hxo hq0
     go_wp2_with fail
     go_meet
     exact ⟨by rw [HO.out],rfl⟩
   case rest=>
    obtain ⟨rfl,hwc⟩:=hcut
    subst hwc
    have UPo:=hid (fun w=>UP.out (decide (q%2=1)) w rfl)
    generalize decide (q%2=1)=od at *
    go_upto_region 5 with fail
    refine wp_region_grow 15 [35,36,37,38,39,40,41,42,43,44,45,46,47,48,49] [Fact.is (.pointer (some ⟨g,0,none⟩)),Fact.is (.pointer (some ⟨g,0,none⟩)),Fact.is (.pointer (some ⟨g,0,none⟩)),Fact.is (.pointer (some ⟨g,0,none⟩)),Fact.is (.bool neg),Fact.is (.bool od),Fact.is (.slice ar (limbs r).length cr),Fact.li (2*r),Fact.is (.pointer (some ⟨g,0,none⟩)),Fact.is (.pointer (some ⟨g,0,none⟩)),Fact.is (.pointer (some ⟨g,4,none⟩)),Fact.is (.slice bn (limbs b).length dn),Fact.is (.int .i64 half),Fact.is (.int .i64 mode),Fact.is (.bool up)] (by kernel_rfl) (by kernel_rfl) ⟨?o0,?o1,?o2,?o3,?o4,?o5,?o6,?o7,?o8,?o9,?o10,?o11,?o12,?o13,?o14,trivial⟩ ?after
    case o0=>(refine oQ rfl ?_;intro ρ w1 R hcon hfn hρ hb hp hR;have e0:ρ (.tmp 0)=.pointer (some ⟨g,0,none⟩):=hρ.tmp 0 rfl;clear hρ hp;unfold OpRun;go_simp;exact hR _ _ (Below.refl _ _) rfl)
    case o1=>(refine oQ rfl ?_;intro ρ w1 R hcon hfn hρ hb hp hR;have e35:ρ (.tmp 35)=_:=hp 0 35 rfl rfl;clear hρ hp;unfold OpRun;go_simp;exact hR _ _ (Below.refl _ _) rfl)
    case o2=>(refine oQ rfl ?_;intro ρ w1 R hcon hfn hρ hb hp hR;have e36:ρ (.tmp 36)=_:=hp 1 36 rfl rfl;clear hρ hp;unfold OpRun;go_simp;exact hR _ _ (Below.refl _ _) rfl)
    case o3=>(refine oQ rfl ?_;intro ρ w1 R hcon hfn hρ hb hp hR;have e37:ρ (.tmp 37)=_:=hp 2 37 rfl rfl;clear hρ hp;unfold OpRun;go_simp;exact hR _ _ (Below.refl _ _) rfl)
    case o4=>(refine oQ rfl ?_;intro ρ w1 R hcon hfn hρ hb hp hR;have e38:ρ (.tmp 38)=_:=hp 3 38 rfl rfl;have j0:=(hb.cell (World.block_lt_of_cell? _ _ K0.out)).trans K0.out;clear hρ hp;unfold OpRun;go_simp;exact hR _ _ (Below.refl _ _) rfl)
    case o5=>(refine oQ rfl ?_;intro ρ w1 R hcon hfn hρ hb hp hR;have e8:ρ (.tmp 8)=.bool od:=hρ.tmp 8 rfl;clear hρ hp;unfold OpRun;go_simp;exact hR _ _ (Below.refl _ _) rfl)
    case o6=>(refine oQ rfl ?_;intro ρ w1 R hcon hfn hρ hb hp hR;have e7:ρ (.tmp 7)=.slice ar (limbs r).length cr:=hρ.tmp 7 rfl;clear hρ hp;unfold OpRun;go_simp;exact hR _ _ (Below.refl _ _) rfl)
    case o7=>(refine oQ rfl ?_;intro ρ w1 R hcon hfn hρ hb hp hR;have e41:ρ (.tmp 41)=_:=hp 6 41 rfl rfl;clear hρ hp;unfold OpRun;go_simp;(refine (LE.out _ _ _ (NR.out.below hb)).mono ?_;rintro e wn ⟨a9,rfl,hn9,hbn⟩;exact ⟨_,rfl,hR _ _ hbn ⟨a9,_,rfl,hn9⟩⟩))
    case o8=>(refine oQ rfl ?_;intro ρ w1 R hcon hfn hρ hb hp hR;have e0:ρ (.tmp 0)=.pointer (some ⟨g,0,none⟩):=hρ.tmp 0 rfl;clear hρ hp;unfold OpRun;go_simp;exact hR _ _ (Below.refl _ _) rfl)
    case o9=>(refine oQ rfl ?_;intro ρ w1 R hcon hfn hρ hb hp hR;have e43:ρ (.tmp 43)=_:=hp 8 43 rfl rfl;clear hρ hp;unfold OpRun;go_simp;exact hR _ _ (Below.refl _ _) rfl)
    case o10=>(refine oQ rfl ?_;intro ρ w1 R hcon hfn hρ hb hp hR;have e44:ρ (.tmp 44)=_:=hp 9 44 rfl rfl;clear hρ hp;unfold OpRun;go_simp;exact hR _ _ (Below.refl _ _) rfl)
    case o11=>(refine oQ rfl ?_;intro ρ w1 R hcon hfn hρ hb hp hR;have e45:ρ (.tmp 45)=_:=hp 10 45 rfl rfl;have j4:=(hb.cell (World.block_lt_of_cell? _ _ K4.out)).trans K4.out;clear hρ hp;unfold OpRun;go_simp;exact hR _ _ (Below.refl _ _) rfl)
    case o12=>(refine oQ rfl ?_;intro ρ w1 R hcon hfn hρ hb hp hR;have f42:=hp 7 42 rfl rfl;have e46:ρ (.tmp 46)=_:=hp 11 46 rfl rfl;obtain ⟨a9,c9,e42,hn9⟩:=f42;clear hρ hp;unfold OpRun;go_simp;(refine (CM.out _ _ _ hn9 (N1'.out.below hb)).mono ?_;rintro e wn ⟨rfl,hbn⟩;exact ⟨_,rfl,hR _ _ hbn rfl⟩))
    case o13=>(refine oQ rfl ?_;intro ρ w1 R hcon hfn hρ hb hp hR;have e1:ρ (.tmp 1)=.int .i64 mode:=hρ.tmp 1 rfl;clear hρ hp;unfold OpRun;go_simp;exact hR _ _ (Below.refl _ _) rfl)
    case o14=>(refine oQ rfl ?_;intro ρ w1 R hcon hfn hρ hb hp hR;have e39:ρ (.tmp 39)=_:=hp 4 39 rfl rfl;have e40:ρ (.tmp 40)=_:=hp 5 40 rfl rfl;have e47:ρ (.tmp 47)=_:=hp 12 47 rfl rfl;have e48:ρ (.tmp 48)=_:=hp 13 48 rfl rfl;clear hρ hp;unfold OpRun;go_simp;(refine (UPo.out _).mono ?_;rintro e wn ⟨rfl,rfl⟩;exact ⟨_,rfl,hR _ _ (Below.refl _ _) rfl⟩))
    case after=>
     intro u wn hb hf
     have e49:u 49=_:=hf 14 49 (by omega) rfl
     clear hf
     simp only [putAll,Act.put,List.setIfInBounds_toArray,List.set_cons_zero,List.set_cons_succ,List.drop_succ_cons,List.drop_zero,List.drop_nil]
     rw [e49]
     have yb2:=below_trans yb1 hb
     have NQ2:=hid (NQ.out.below hb)
     clear hb yb1 K0 K4 LE CM UP UPo NR N1'
     cases up
     ·go_wp2_with fail
      go_ret2
      rw [HQ.out.2 (by first|rfl|trivial)]
      exact ⟨aq,cq,rfl,NQ2.out,yb2⟩
     ·go_wp2_with (first
       |(go_at_call 95;(with_reducible refine (OF.out _).mono ?_);rintro e w8 ⟨a8,rfl,hN8,hb8⟩)
       |(go_at_call 163;(with_reducible refine (PL.out _ _ _ _ _ (NQ2.out.below hb8) hN8).mono ?_);rintro e w9 ⟨a9,rfl,hN9,hb9⟩))
      go_ret2
      rw [HQ.out.1 (by first|rfl|trivial)]
      exact ⟨_,_,rfl,hN9,below_trans (below_trans yb2 hb8) hb9⟩
end Go.Proofs.YtfphmlmgjhebjaaGreatDoor
namespace Go.Ulp
open Go.RowKit
def RetRat (w:World) (neg:Bool) (a b:Nat) (e:Ending) (w':World):Prop:= ∃g,e=.returned (.pointer (some ⟨g,0,none⟩))∧RtAt w' g neg a b∧Below w.heap.size w w'
def Fact.rat (neg:Bool) (a b:Nat):Fact:=⟨fun v w=> ∃g,v=.pointer (some ⟨g,0,none⟩)∧RtAt w g neg a b,fun _ _ _ h hb=>by
 obtain ⟨g,h1,h2⟩:=h;exact ⟨g,h1,h2.below hb⟩⟩
def Fact.rtv (neg:Bool) (s:Value) (x:Int) (a b:Nat):Fact:=⟨fun v w=> ∃an cn bn dn,v=.agg #[.bool neg,s,.int .i64 x,.slice an (limbs a).length cn,.slice bn (limbs b).length dn]∧Ns .u32 w an cn (limbs a)∧Ns .u32 w bn dn (limbs b),fun _ _ _ h hb=>by
 obtain ⟨an,cn,bn,dn,h1,h2,h3⟩:=h;exact ⟨an,cn,bn,dn,h1,h2.below hb,h3.below hb⟩⟩
theorem rat_made (w:World) (neg:Bool) (s:Value) (x:Int) (a b:Nat) (an bn:Option Addr) (cn dn:Nat) (t:TypeId) (h:Ns .u32 w an cn (limbs a)) (k:Ns .u32 w bn dn (limbs b)):
 RtAt (w.alloc (.cells #[.bool neg,s,.int .i64 x,.slice an (limbs a).length cn,.slice bn (limbs b).length dn] t)) w.heap.size neg a b:=by
 refine ⟨an,cn,bn,dn,?_,?_,?_,h.below (below_alloc _ _),k.below (below_alloc _ _)⟩
 ·rw [World.cell?_alloc_at (hn:=rfl)];rfl
 ·rw [World.cell?_alloc_at (hn:=rfl)];rfl
 ·rw [World.cell?_alloc_at (hn:=rfl)];rfl
end Go.Ulp
namespace Go.Proofs.YtfphmlmgjhebjaaGreatDoor
open Go.RowKit Go.Ulp
set_option maxHeartbeats 1000000
set_option maxRecDepth 100000
theorem scaled_any (v:Value) (D:Dy) (t:Int) (w:World) (hv:VD w D v) (hl:(limbs D.1.natAbs).length≤1000) (he: -20000≤D.2∧D.2≤20000) (ht: -10000≤t∧t≤10000):
 Calls Tryz.prog 182 #[v,.int .i64 t] w (RetRat w (decide (D.1<0)) (dA D*tnN t) (dB D*tnN (-t))):=by
 obtain ⟨am,cm,rfl,hN⟩:=hv
 obtain ⟨M,hM⟩: ∃M,M=D.1.natAbs:=⟨_,rfl⟩
 obtain ⟨x,hx⟩: ∃x,x=D.2:=⟨_,rfl⟩
 obtain ⟨neg,hneg⟩: ∃n,n=decide (D.1<0):=⟨_,rfl⟩
 obtain ⟨T,hT⟩: ∃T:Nat,T=t.toNat:=⟨_,rfl⟩
 obtain ⟨S,hS⟩: ∃T:Nat,T=(-t).toNat:=⟨_,rfl⟩
 obtain ⟨X,hX⟩: ∃T:Nat,T=x.toNat:=⟨_,rfl⟩
 obtain ⟨Y,hY⟩: ∃T:Nat,T=(-x).toNat:=⟨_,rfl⟩
 have EA:dA D*tnN t=M*10^T*2^X:=by unfold dA tnN;rw [←hM,←hx,←hX,←hT,Nat.mul_right_comm]
 have EB:dB D*tnN (-t)=10^S*2^Y:=by unfold dB tnN;rw [←hx,←hY,←hS,Nat.mul_comm]
 rw [EA,EB]
 rw [←hM] at hN hl ⊢
 rw [←hx,←hneg]
 rw [←hx] at he
 have m1:max t 0=(T:Int):=by omega
 have m2:max (-t) 0=(S:Int):=by omega
 have m3:max x 0=(X:Int):=by omega
 have m4:max (-x) 0=(Y:Int):=by omega
 clear EA EB hM hx hneg
 have lT:=limbs_ten T (by omega)
 have lS:=limbs_ten S (by omega)
 have lMT:=limbs_len_mul M (10^T) 1000 3002 hl lT
 have P1:=hid (fun w=>pow10_any T (by omega) w)
 have P2:=hid (fun w=>pow10_any S (by omega) w)
 have TI:=hid (fun b d w h0 h1=>times_any am b cm d M (10^T) w h0 h1 (by omega) (by omega))
 have L1:=hid (fun b d w h0=>leftN_any b d (M*10^T) X w h0 (by omega) (by omega))
 have L2:=hid (fun b d w h0=>leftN_any b d (10^S) Y w h0 (by omega) (by omega))
 have HN:=hid hN
 clear hN lT lS lMT hT hS hX hY
 have zQ:QL 67 (w.alloc (.cells #[.bool neg,.slice am (limbs M).length cm,.int .i64 x] 67)) w.heap.size neg (.slice am (limbs M).length cm) x:=QL.made rfl
 have yb0:=below_alloc w (.cells #[.bool neg,.slice am (limbs M).length cm,.int .i64 x] 67)
 go_enter Tryz.func182,Tryz.ntmps182
 go_upto_region 1 with fail
 refine wp_worldZ (fun WW=>Below w.heap.size w WW∧QL 67 WW w.heap.size neg (.slice am (limbs M).length cm) x∧Ns .u32 WW am cm (limbs M)) ⟨yb0,zQ,HN.out.below yb0⟩ ?_
 intro W1 ⟨yb1,zQ1,hN1⟩
 obtain ⟨g2,hg2⟩: ∃g,g=w.heap.size:=⟨_,rfl⟩
 rw [←hg2] at zQ1
 rw [←hg2]
 clear hg2 zQ yb0 HN
 refine wp_region_grow 23 [5,6,7,8,9,10,11,12,13,14,15,16,17,18,19,20,21,22,23,24,25,26,4] [Fact.is (.agg #[.bool neg,.slice am (limbs M).length cm,.int .i64 x]),Fact.is (.pointer (some ⟨g2,1,none⟩)),Fact.is (.slice am (limbs M).length cm),Fact.is (.int .i64 t),Fact.is (.int .i64 (T:Int)),Fact.li (10^T),Fact.li (M*10^T),Fact.is (.pointer (some ⟨g2,2,none⟩)),Fact.is (.int .i64 x),Fact.is (.int .i64 (X:Int)),Fact.li (M*10^T*2^X),Fact.is (.int .i64 t),Fact.is (.int .i64 (-t)),Fact.is (.int .i64 (S:Int)),Fact.li (10^S),Fact.is (.pointer (some ⟨g2,2,none⟩)),Fact.is (.int .i64 x),Fact.is (.int .i64 (-x)),Fact.is (.int .i64 (Y:Int)),Fact.li (10^S*2^Y),Fact.rtv neg (.slice am (limbs M).length cm) x (M*10^T*2^X) (10^S*2^Y),Fact.rat neg (M*10^T*2^X) (10^S*2^Y),Fact.rat neg (M*10^T*2^X) (10^S*2^Y)] (by kernel_rfl) (by kernel_rfl) ⟨?o0,?o1,?o2,?o3,?o4,?o5,?o6,?o7,?o8,?o9,?o10,?o11,?o12,?o13,?o14,?o15,?o16,?o17,?o18,?o19,?o20,?o21,?o22,trivial⟩ ?after
 case o0=>(refine oQ rfl ?_;intro ρ w1 R hcon hfn hρ hb hp hR;have e2:ρ (.tmp 2)=.pointer (some ⟨g2,0,none⟩):=hρ.tmp 2 rfl;obtain ⟨⟨j0,j1,-⟩,j2,-⟩:=zQ1.below hb;clear hρ hp;unfold OpRun;go_simp;exact hR _ _ (Below.refl _ _) rfl)
 case o1=>(refine oQ rfl ?_;intro ρ w1 R hcon hfn hρ hb hp hR;have e2:ρ (.tmp 2)=.pointer (some ⟨g2,0,none⟩):=hρ.tmp 2 rfl;clear hρ hp;unfold OpRun;go_simp;exact hR _ _ (Below.refl _ _) rfl)
 case o2=>(refine oQ rfl ?_;intro ρ w1 R hcon hfn hρ hb hp hR;have e6:ρ (.tmp 6)=_:=hp 1 6 rfl rfl;obtain ⟨⟨j0,j1,-⟩,j2,-⟩:=zQ1.below hb;clear hρ hp;unfold OpRun;go_simp;exact hR _ _ (Below.refl _ _) rfl)
 case o3=>(refine oQ rfl ?_;intro ρ w1 R hcon hfn hρ hb hp hR;have e1:ρ (.tmp 1)=.int .i64 t:=hρ.tmp 1 rfl;clear hρ hp;unfold OpRun;go_simp;exact hR _ _ (Below.refl _ _) rfl)
 case o4=>(refine oQ rfl ?_;intro ρ w1 R hcon hfn hρ hb hp hR;have e8:ρ (.tmp 8)=_:=hp 3 8 rfl rfl;clear hρ hp;unfold OpRun;go_simp;exact hR _ _ (Below.refl _ _) rfl)
 case o5=>(refine oQ rfl ?_;intro ρ w1 R hcon hfn hρ hb hp hR;have e9:ρ (.tmp 9)=_:=hp 4 9 rfl rfl;clear hρ hp;unfold OpRun;go_simp;(refine (P1.out _).mono ?_;rintro e wn ⟨b9,d9,rfl,hn9,hbn⟩;exact ⟨_,rfl,hR _ _ hbn ⟨b9,d9,rfl,hn9⟩⟩))
 case o6=>(refine oQ rfl ?_;intro ρ w1 R hcon hfn hρ hb hp hR;have e7:ρ (.tmp 7)=_:=hp 2 7 rfl rfl;have f10:=hp 5 10 rfl rfl;obtain ⟨b10,d10,e10,hn10⟩:=f10;clear hρ hp;unfold OpRun;go_simp;(skip;refine (TI.out _ _ _ (hN1.below hb) hn10).mono ?_;rintro e wn ⟨b9,rfl,hn9,hbn⟩;exact ⟨_,rfl,hR _ _ hbn ⟨b9,_,rfl,hn9⟩⟩))
 case o7=>(refine oQ rfl ?_;intro ρ w1 R hcon hfn hρ hb hp hR;have e2:ρ (.tmp 2)=.pointer (some ⟨g2,0,none⟩):=hρ.tmp 2 rfl;clear hρ hp;unfold OpRun;go_simp;exact hR _ _ (Below.refl _ _) rfl)
 case o8=>(refine oQ rfl ?_;intro ρ w1 R hcon hfn hρ hb hp hR;have e12:ρ (.tmp 12)=_:=hp 7 12 rfl rfl;obtain ⟨⟨j0,j1,-⟩,j2,-⟩:=zQ1.below hb;clear hρ hp;unfold OpRun;go_simp;exact hR _ _ (Below.refl _ _) rfl)
 case o9=>(refine oQ rfl ?_;intro ρ w1 R hcon hfn hρ hb hp hR;have e13:ρ (.tmp 13)=_:=hp 8 13 rfl rfl;clear hρ hp;unfold OpRun;go_simp;exact hR _ _ (Below.refl _ _) rfl)
 case o10=>(refine oQ rfl ?_;intro ρ w1 R hcon hfn hρ hb hp hR;have f11:=hp 6 11 rfl rfl;have e14:ρ (.tmp 14)=_:=hp 9 14 rfl rfl;obtain ⟨b11,d11,e11,hn11⟩:=f11;clear hρ hp;unfold OpRun;go_simp;(skip;refine (L1.out _ _ _ hn11).mono ?_;rintro e wn ⟨b9,rfl,hn9,hbn⟩;exact ⟨_,rfl,hR _ _ hbn ⟨b9,_,rfl,hn9⟩⟩))
 case o11=>(refine oQ rfl ?_;intro ρ w1 R hcon hfn hρ hb hp hR;have e1:ρ (.tmp 1)=.int .i64 t:=hρ.tmp 1 rfl;clear hρ hp;unfold OpRun;go_simp;exact hR _ _ (Below.refl _ _) rfl)
 case o12=>(refine oQ rfl ?_;intro ρ w1 R hcon hfn hρ hb hp hR;have e16:ρ (.tmp 16)=_:=hp 11 16 rfl rfl;have hwp:IntKind.i64.wrap (-t)= -t:=IntWalk.i64_in _ (by omega);clear hρ hp;unfold OpRun;go_simp;exact hR _ _ (Below.refl _ _) rfl)
 case o13=>(refine oQ rfl ?_;intro ρ w1 R hcon hfn hρ hb hp hR;have e17:ρ (.tmp 17)=_:=hp 12 17 rfl rfl;clear hρ hp;unfold OpRun;go_simp;exact hR _ _ (Below.refl _ _) rfl)
 case o14=>(refine oQ rfl ?_;intro ρ w1 R hcon hfn hρ hb hp hR;have e18:ρ (.tmp 18)=_:=hp 13 18 rfl rfl;clear hρ hp;unfold OpRun;go_simp;(refine (P2.out _).mono ?_;rintro e wn ⟨b9,d9,rfl,hn9,hbn⟩;exact ⟨_,rfl,hR _ _ hbn ⟨b9,d9,rfl,hn9⟩⟩))
 case o15=>(refine oQ rfl ?_;intro ρ w1 R hcon hfn hρ hb hp hR;have e2:ρ (.tmp 2)=.pointer (some ⟨g2,0,none⟩):=hρ.tmp 2 rfl;clear hρ hp;unfold OpRun;go_simp;exact hR _ _ (Below.refl _ _) rfl)
 case o16=>(refine oQ rfl ?_;intro ρ w1 R hcon hfn hρ hb hp hR;have e20:ρ (.tmp 20)=_:=hp 15 20 rfl rfl;obtain ⟨⟨j0,j1,-⟩,j2,-⟩:=zQ1.below hb;clear hρ hp;unfold OpRun;go_simp;exact hR _ _ (Below.refl _ _) rfl)
 case o17=>(refine oQ rfl ?_;intro ρ w1 R hcon hfn hρ hb hp hR;have e21:ρ (.tmp 21)=_:=hp 16 21 rfl rfl;have hwp:IntKind.i64.wrap (-x)= -x:=IntWalk.i64_in _ (by omega);clear hρ hp;unfold OpRun;go_simp;exact hR _ _ (Below.refl _ _) rfl)
 case o18=>(refine oQ rfl ?_;intro ρ w1 R hcon hfn hρ hb hp hR;have e22:ρ (.tmp 22)=_:=hp 17 22 rfl rfl;clear hρ hp;unfold OpRun;go_simp;exact hR _ _ (Below.refl _ _) rfl)
 case o19=>(refine oQ rfl ?_;intro ρ w1 R hcon hfn hρ hb hp hR;have f19:=hp 14 19 rfl rfl;have e23:ρ (.tmp 23)=_:=hp 18 23 rfl rfl;obtain ⟨b19,d19,e19,hn19⟩:=f19;clear hρ hp;unfold OpRun;go_simp;(skip;refine (L2.out _ _ _ hn19).mono ?_;rintro e wn ⟨b9,rfl,hn9,hbn⟩;exact ⟨_,rfl,hR _ _ hbn ⟨b9,_,rfl,hn9⟩⟩))
 case o20=>(refine oQ rfl ?_;intro ρ w1 R hcon hfn hρ hb hp hR;have e5:ρ (.tmp 5)=_:=hp 0 5 rfl rfl;have f15:=hp 10 15 rfl rfl;have f24:=hp 19 24 rfl rfl;obtain ⟨b15,d15,e15,hn15⟩:=f15;obtain ⟨b24,d24,e24,hn24⟩:=f24;clear hρ hp;unfold OpRun;go_simp;exact hR _ _ (Below.refl _ _) ⟨b15,d15,b24,d24,rfl,hn15,hn24⟩)
 case o21=>(refine oQ rfl ?_;intro ρ w1 R hcon hfn hρ hb hp hR;have f25:=hp 20 25 rfl rfl;obtain ⟨b15,d15,b24,d24,e25,hn15,hn24⟩:=f25;clear hρ hp;unfold OpRun;go_simp;exact hR _ _ (below_alloc _ _) ⟨_,rfl,rat_made _ _ _ _ _ _ _ _ _ _ _ hn15 hn24⟩)
 case o22=>(refine oQ rfl ?_;intro ρ w1 R hcon hfn hρ hb hp hR;have f26:=hp 21 26 rfl rfl;clear hρ hp;unfold OpRun;go_simp;exact hR _ _ (Below.refl _ _) f26)
 case after=>
  intro u wn hb hf
  have f4:=hf 22 4 (by omega) rfl
  clear hf
  simp only [putAll,Act.put,List.setIfInBounds_toArray,List.set_cons_zero,List.set_cons_succ,List.drop_succ_cons,List.drop_zero,List.drop_nil]
  obtain ⟨g4,e4,hr4⟩:=f4
  rw [e4]
  go_wp2_with fail
  go_ret
  exact ⟨g4,rfl,hr4,below_trans yb1 hb⟩
end Go.Proofs.YtfphmlmgjhebjaaGreatDoor
