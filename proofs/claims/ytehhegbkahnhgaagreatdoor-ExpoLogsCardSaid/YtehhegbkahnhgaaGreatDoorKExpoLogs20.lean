/- ExpoLogs: what the proof leans on, part 20 (Sg0 Sg1). -/
import Derived.Test.YtehhegbkahnhgaaGreatDoorKExpoLogs18
import Derived.Test.YtehhegbkahnhgaaGreatDoorKExpoLogs19
set_option linter.unusedVariables false
set_option linter.unusedSimpArgs false
namespace Go.Ulp
open Go.RowKit
theorem frB_cases (num den D:Nat):frB num den D=(num*D/den,if num*D%den=0 then num*D/den else num*D/den+1):=rfl
theorem atP_plus (s1 s2:Nat):plP (s1,s2+4) (s1,s2+4)=(2*s1,2*(s2+4)):=by
 show (s1+s1,s2+4+(s2+4))=_
 rw [←Nat.two_mul,←Nat.two_mul]
end Go.Ulp
namespace Go.Proofs.YtehhegbkahnhgaaGreatDoor
open Go.RowKit Go.Ulp
set_option maxHeartbeats 4000000
set_option maxRecDepth 100000
theorem sAtanh_any (num den p n:Nat) (a0 a1:Option Addr) (c0 c1:Nat) (w:World) (h0:Ns .u32 w a0 c0 (limbs num)) (h1:Ns .u32 w a1 c1 (limbs den)) (hA:AtOK num den p n):
 Calls Tryz.prog 105 #[.slice a0 (limbs num).length c0,.slice a1 (limbs den).length c1,.int .i64 (p:Int)] w (RetPR w (atP (frB num den (2^p)) p n)):=by
 have p0:=hA.p0
 have p1:=hA.p1
 have hn:=hA.k1
 obtain ⟨y9,hy9⟩: ∃y,y=9000:=⟨_,rfl⟩
 have ln:=hA.ln
 have ld:=hA.ld
 rw [←hy9] at ln ld
 have lnum:(limbs num).length≤4294967296:=len_le ln (by omega)
 have lden:(limbs den).length≤4294967296:=len_le ld (by omega)
 have lsh:(limbs (num*2^p)).length≤4294967296:=len_le (k:=y9+p) (by rw [Nat.pow_add];exact Nat.mul_le_mul_right _ ln) (by omega)
 have L0:=hid (fun w h=>leftN_any a0 c0 num p w h lnum (by omega))
 have O0:=hid (fun a b c d w h k=>over_any a b c d (num*2^p) den w h k lsh hA.hd)
 have OF1:=hid (show ∀w,Calls Tryz.prog 66 #[.int .u64 1] w fun e w'=>RetN w 1 e w' from fun w=>natOf_any 1 (by omega) w)
 have OF4:=hid (show ∀w,Calls Tryz.prog 66 #[.int .u64 4] w fun e w'=>RetN w 4 e w' from fun w=>natOf_any 4 (by omega) w)
 have lq:(limbs (num*2^p/den)).length≤4294967296:=Nat.le_trans (limbs_len_mono (Nat.div_le_self _ _)) lsh
 have PL1:=hid (fun a b c d w h k=>plus_any a b c d (num*2^p/den) 1 w h k lq (by decide))
 have CM:=hid (fun (a:Option Addr) (c:Nat) (b:Option Addr) (d H:Nat) (w:World) (h:Ns .u32 w a c (limbs H)) (k:Ns .u32 w b d (limbs 1))=>(compare_any a b c d H 1 w h k).mono (fun en w' hh=>(⟨hh.1,by obtain ⟨nq,hq⟩:=hh.2;rw [hq];exact below_drewN (Below.refl _ _) _⟩:en=.returned (.int .i64 (cmpI (H:Int) ((1:Nat):Int)))∧Below w.heap.size w w')))
 have HZ:=frB_cases num den (2^p)
 have lw: ∀i,(limbs (apP (frB num den (2^p)) p i).1).length≤4294967296∧(limbs (apP (frB num den (2^p)) p i).2).length≤4294967296:=fun i=>⟨len_le (hA.pw i).1 (by omega),len_le (hA.pw i).2 (by omega)⟩
 have lz:=lw 0
 have lq1:(limbs (tmP (frB num den (2^p)) (frB num den (2^p)) p).1).length≤4294967296∧(limbs (tmP (frB num den (2^p)) (frB num den (2^p)) p).2).length≤4294967296:=⟨len_le hA.sq.1 (by omega),len_le hA.sq.2 (by omega)⟩
 have lm: ∀ {a b:Nat},a≤2^p→b≤2^p→(limbs (a*b)).length≤4294967296:=fun ha hb=>len_le (k:=p+p) (by rw [Nat.pow_add];exact Nat.mul_le_mul ha hb) (by omega)
 have TS:=hid (fun v u w h k=>times9_any (frB num den (2^p)) (frB num den (2^p)) p v u w h k lz.1 lz.2 lz.1 lz.2 (lm (hA.pw 0).1 (hA.pw 0).1) (lm (hA.pw 0).2 (hA.pw 0).2) (by omega))
 have TI:=hid (fun i v u w h k=>times9_any (apP (frB num den (2^p)) p i) (tmP (frB num den (2^p)) (frB num den (2^p)) p) p v u w h k (lw i).1 (lw i).2 lq1.1 lq1.2 (lm (hA.pw i).1 hA.sq.1) (lm (hA.pw i).2 hA.sq.2) (by omega))
 have OV:=hid (fun i (hi:i≤p) v w h=>over9_any (apP (frB num den (2^p)) p (i+1)) (2*i+3) v w h (lw (i+1)).1 (lw (i+1)).2 (by omega) (by omega))
 have ls: ∀i,i≤p→(limbs (asP (frB num den (2^p)) p i).1).length≤4294967296∧(limbs (asP (frB num den (2^p)) p i).2).length≤4294967296:=fun i hi=>⟨len_le (hA.sm i hi).1 (by omega),len_le (hA.sm i hi).2 (by omega)⟩
 have lo: ∀i,(limbs (ovP (apP (frB num den (2^p)) p (i+1)) (2*i+3)).1).length≤4294967296∧(limbs (ovP (apP (frB num den (2^p)) p (i+1)) (2*i+3)).2).length≤4294967296:=fun i=>⟨Nat.le_trans (limbs_len_mono (Nat.div_le_self _ _)) (lw (i+1)).1,Nat.le_trans (limbs_len_mono (cdiv_self_le _ _ (by omega))) (lw (i+1)).2⟩
 have PL:=hid (fun i (hi:i≤p) v u w h k=>plus9_any (asP (frB num den (2^p)) p i) (ovP (apP (frB num den (2^p)) p (i+1)) (2*i+3)) v u w h k (ls i hi).1 (ls i hi).2 (lo i).1 (lo i).2)
 have PL4:=hid (fun a b c d w h k=>plus_any a b c d (asP (frB num den (2^p)) p n).2 4 w h k (ls n hn).2 (by decide))
 have l4:(limbs ((asP (frB num den (2^p)) p n).2+4)).length≤4294967296:=len_le (k:=p+37) (by
  have a:=(hA.sm n hn).2
  have b:2^(p+37)=2^(p+36)*2:=by rw [←Nat.pow_succ]
  have c:4≤2^(p+36):=Nat.le_trans (show 4≤2^2 by decide) (Nat.pow_le_pow_right (by omega) (by omega))
  omega) (by omega)
 have PE:=hid (fun v u w h k=>plus9_any ((asP (frB num den (2^p)) p n).1,(asP (frB num den (2^p)) p n).2+4) ((asP (frB num den (2^p)) p n).1,(asP (frB num den (2^p)) p n).2+4) v u w h k (ls n hn).1 l4 (ls n hn).1 l4)
 rw [atP_plus] at PE
 have HE:=hid (show atP (frB num den (2^p)) p n=(2*(asP (frB num den (2^p)) p n).1,2*((asP (frB num den (2^p)) p n).2+4)) from rfl)
 rw [HE.out]
 have HN1:=hid hA.e1
 have HN2:=hid hA.e2
 generalize frB num den (2^p)=Z at *
 generalize num*2^p=NP at *
 obtain ⟨SQ,hSQ⟩: ∃S,S=tmP Z Z p:=⟨_,rfl⟩
 rw [←hSQ] at TI TS
 have HSQ:=hid hSQ
 clear hSQ
 obtain ⟨Q,hQ⟩: ∃Q,Q=NP/den:=⟨_,rfl⟩
 obtain ⟨R,hR⟩: ∃R,R=NP%den:=⟨_,rfl⟩
 rw [←hQ,←hR] at HZ
 rw [←hQ] at PL1
 rw [←hQ,←hR] at O0
 have HZ2:=hid HZ
 have H0:=hid h0
 have H1:=hid h1
 have zR:P2 100 (w.alloc (.cells #[.slice none 0 0,.slice none 0 0] 100)) w.heap.size (.slice none 0 0) (.slice none 0 0):=P2.made rfl
 have yb0:=below_alloc w (.cells #[.slice none 0 0,.slice none 0 0] 100)
 obtain ⟨lnn,hlnn⟩: ∃l,l=(limbs num).length:=⟨_,rfl⟩
 obtain ⟨ldd,hldd⟩: ∃l,l=(limbs den).length:=⟨_,rfl⟩
 rw [←hlnn] at L0 ⊢
 rw [←hldd] at O0 ⊢
 clear hA ln ld lnum lden lsh lq lw lz lq1 lm ls lo l4 h0 h1 HZ hQ hR HE hlnn hldd
 go_enter Tryz.func105,Tryz.ntmps105
 go_upto_region 2 with (first
  |(go_at_call 69;(with_reducible refine (L0.out _ (H0.out.below yb0)).mono ?_);rintro en w1 ⟨b1,rfl,k1,hb1⟩)
  |(go_at_call 94;(with_reducible refine (O0.out _ _ _ _ _ k1 ((H1.out.below yb0).below hb1)).mono ?_);rintro en w2 ⟨b2,c2,b3,c3,rfl,k2,k3,hb2⟩))
 refine wp_wld9 (fun WW=>Below w.heap.size w WW∧P2 100 WW w.heap.size (.slice none 0 0) (.slice none 0 0)∧Ns .u32 WW b2 c2 (limbs Q)∧Ns .u32 WW b3 c3 (limbs R)) ⟨below_trans (below_trans yb0 hb1) hb2,(zR.below hb1).below hb2,k2,k3⟩ ?_
 clear yb0 zR k1 k2 k3 hb1 hb2 L0 O0 H0 H1
 intro W1 ⟨y1,zR,k2,k3⟩
 go_upto_region 3 with fail
 have hlt:=zR.lt
 refine wp_wld9 (fun WW=>Below w.heap.size w WW∧P2 100 WW w.heap.size (.slice none 0 0) (.slice none 0 0)∧PV 100 WW W1.heap.size (Q,Q)∧Ns .u32 WW b2 c2 (limbs Q)) ⟨below_trans y1 (below_alloc _ _),zR.below (below_alloc _ _),PV.made (x:=(Q,Q)) rfl k2 k2,k2.below (below_alloc _ _)⟩ ?_
 obtain ⟨g9,hg9⟩: ∃g,g=W1.heap.size:=⟨_,rfl⟩
 rw [←hg9] at hlt ⊢
 clear y1 zR k2 k3 hg9
 intro W2 ⟨y2,zR,v9,k2⟩
 go_upto_if 27 with fail
 go_cut [] (fun wx=>Below w.heap.size w wx∧P2 100 wx w.heap.size (.slice none 0 0) (.slice none 0 0)∧PV 100 wx g9 Z)
 case first=>as_aux_lemma=>
  by_cases hr:R=0
  ·have e0:(limbs R).length=0:=by rw [hr];rfl
   have HZ3:=hid (show Z=(Q,Q) by rw [HZ2.out,if_pos hr])
   have hg: ¬(0:Int)<((limbs R).length:Int):=by rw [e0];omega
   clear hr e0
   go_wp2_with fail
   go_meet
   rw [HZ3.out]
   exact ⟨y2,zR,v9⟩
  ·have HZ3:=hid (show Z=(Q,Q+1) by rw [HZ2.out,if_neg hr])
   have e0:(limbs R).length≠0:=fun h=>hr ((limbs_nil R).1 (List.length_eq_zero_iff.1 h))
   have hg:(0:Int)<((limbs R).length:Int):=by omega
   clear hr e0
   obtain ⟨a9,b9,c9,d9,z9,n9,m9⟩:=id v9
   go_wp2_with (first
    |(go_at_call 66;(with_reducible refine (OF1.out _).mono ?_);rintro en w3 ⟨b4,rfl,k4,hb3⟩)
    |(go_at_call 70;(with_reducible refine (PL1.out _ _ _ _ _ (k2.below hb3) k4).mono ?_);rintro en w4 ⟨b5,rfl,k5,hb4⟩;have z94:=(z9.below hb3).below hb4;obtain ⟨j0,j1,f0,f1,-⟩:=id z94))
   go_meet
   rw [HZ3.out]
   exact ⟨((below_trans (below_trans y2 hb3) hb4).setCell (p:=⟨g9,1,none⟩) (by show w.heap.size≤g9;omega) _),((zR.below hb3).below hb4).far _ _ (by show w.heap.size≠g9;omega),PV.put1 z94 sl_no ((n9.below hb3).below hb4) k5⟩
 case rest=>
  obtain ⟨y3,zR3,v93⟩:=hcut
  obtain ⟨W3,hW3⟩: ∃W,W=wc:=⟨_,rfl⟩
  subst hW3
  clear y2 zR v9 k2 HZ2 PL1
  obtain ⟨s9,r9,z9,p9⟩:=v93.pr
  obtain ⟨j0,j1,f0,f1,-⟩:=id z9
  go_upto_region 6 with (go_at_call 120;(with_reducible refine (TS.out _ _ _ p9 p9).mono ?_);rintro en w4 ⟨v4,rfl,⟨a4,b4,c4,d4,rfl,k4,k5⟩,hb4⟩)
  have hlt9:=(v93.below hb4).lt
  refine wp_wld9 (fun WW=>Below w.heap.size w WW∧P2 100 WW w.heap.size (.slice none 0 0) (.slice none 0 0)∧PV 100 WW g9 Z∧PV 100 WW w4.heap.size SQ) ⟨below_trans (below_trans y3 hb4) (below_alloc _ _),(zR3.below hb4).below (below_alloc _ _),(v93.below hb4).below (below_alloc _ _),PV.made rfl k4 k5⟩ ?_
  obtain ⟨g10,hg10⟩: ∃g,g=w4.heap.size:=⟨_,rfl⟩
  rw [←hg10] at hlt9 ⊢
  clear y3 zR3 v93 k4 k5 hb4 hg10 z9 p9 j0 j1 f0 f1 TS
  intro W4 ⟨y4,zR,v9,v10⟩
  obtain ⟨a9,b9,c9,d9,z9,n9,m9⟩:=id v9
  obtain ⟨j0,j1,-⟩:=id z9
  have l9:=z9.lt
  have hlt10:=v10.lt
  have ja0: ∀o,(W4.alloc o).cell? ⟨g9,0,none⟩=some (.slice a9 (limbs Z.1).length c9):=fun o=>((below_alloc W4 o).cell (p:=⟨g9,0,none⟩) l9).trans j0
  have ja1: ∀o,(W4.alloc o).cell? ⟨g9,1,none⟩=some (.slice b9 (limbs Z.2).length d9):=fun o=>((below_alloc W4 o).cell (p:=⟨g9,1,none⟩) l9).trans j1
  have jb0: ∀o o',((W4.alloc o).alloc o').cell? ⟨g9,0,none⟩=some (.slice a9 (limbs Z.1).length c9):=fun o o'=>((below_trans (below_alloc W4 o) (below_alloc _ o')).cell (p:=⟨g9,0,none⟩) l9).trans j0
  have jb1: ∀o o',((W4.alloc o).alloc o').cell? ⟨g9,1,none⟩=some (.slice b9 (limbs Z.2).length d9):=fun o o'=>((below_trans (below_alloc W4 o) (below_alloc _ o')).cell (p:=⟨g9,1,none⟩) l9).trans j1
  have FX:Below w.heap.size w ((W4.alloc (.cells #[.slice a9 (limbs Z.1).length c9,.slice b9 (limbs Z.2).length d9] 100)).alloc (.cells #[.slice a9 (limbs Z.1).length c9,.slice b9 (limbs Z.2).length d9] 100)).drew∧P2 100 ((W4.alloc (.cells #[.slice a9 (limbs Z.1).length c9,.slice b9 (limbs Z.2).length d9] 100)).alloc (.cells #[.slice a9 (limbs Z.1).length c9,.slice b9 (limbs Z.2).length d9] 100)).drew w.heap.size (.slice none 0 0) (.slice none 0 0)∧PV 100 ((W4.alloc (.cells #[.slice a9 (limbs Z.1).length c9,.slice b9 (limbs Z.2).length d9] 100)).alloc (.cells #[.slice a9 (limbs Z.1).length c9,.slice b9 (limbs Z.2).length d9] 100)).drew g10 SQ∧PV 100 ((W4.alloc (.cells #[.slice a9 (limbs Z.1).length c9,.slice b9 (limbs Z.2).length d9] 100)).alloc (.cells #[.slice a9 (limbs Z.1).length c9,.slice b9 (limbs Z.2).length d9] 100)).drew W4.heap.size Z∧PV 100 ((W4.alloc (.cells #[.slice a9 (limbs Z.1).length c9,.slice b9 (limbs Z.2).length d9] 100)).alloc (.cells #[.slice a9 (limbs Z.1).length c9,.slice b9 (limbs Z.2).length d9] 100)).drew (W4.heap.size+1) Z:=by
   have hbx:Below W4.heap.size W4 ((W4.alloc (.cells #[.slice a9 (limbs Z.1).length c9,.slice b9 (limbs Z.2).length d9] 100)).alloc (.cells #[.slice a9 (limbs Z.1).length c9,.slice b9 (limbs Z.2).length d9] 100)).drew:=Below.drew (below_trans (below_alloc _ _) (below_alloc _ _))
   exact ⟨below_trans y4 hbx,zR.below hbx,v10.below hbx,(PV.made rfl n9 m9).below (Below.drew (below_alloc _ _)),(PV.made (by simp) (n9.below (below_alloc _ _)) (m9.below (below_alloc _ _))).below (Below.drew (Below.refl _ _))⟩
  go_cut [11,12] (fun s11 s12 wx=> ∃g11 g12:Nat,s11=.pointer (some ⟨g11,0,none⟩)∧s12=.pointer (some ⟨g12,0,none⟩)∧g11≠g12∧g10<g11∧g10<g12∧Below w.heap.size w wx∧P2 100 wx w.heap.size (.slice none 0 0) (.slice none 0 0)∧PV 100 wx g10 SQ∧PV 100 wx g11 Z∧PV 100 wx g12 Z)
  case first=>as_aux_lemma=>
   have FY:=hid FX
   have HLT:=hid hlt10
   clear zR v9 v10 z9 n9 m9 FX hlt10 l9 y4 TI OV PL CM PL4 PE OF1 OF4 HN1 HN2 HSQ
   go_region
   ·go_wp2_with fail
    go_meet
    obtain ⟨fb,fR,f10,f11,f12⟩:=FY.out
    have hlt:=HLT.out
    exact ⟨_,_,rfl,rfl,by omega,by omega,by omega,fb,fR,f10,f11,f12⟩
   ·go_wp2_with fail
    go_meet
    obtain ⟨fb,fR,f10,f11,f12⟩:=FY.out
    have hlt:=HLT.out
    exact ⟨_,_,rfl,rfl,by omega,by omega,by omega,fb,fR,f10,f12,f11⟩
  case rest=>
   obtain ⟨g11,g12,rfl,rfl,hg1112,hg11,hg12,y5,zR,v10,v11,v12⟩:=hcut
   clear FX ja0 ja1 jb0 jb1 j0 j1 z9 n9 m9 y4 l9 v9 hlt10
   go_wp2_with fail
   go_loopw [13] (fun s13 wx=> ∃i J:Nat,s13=.int .i64 (J:Int)∧J=2*i+3∧i≤n∧Below w.heap.size w wx∧P2 100 wx w.heap.size (.slice none 0 0) (.slice none 0 0)∧PV 100 wx g10 SQ∧PV 100 wx g11 (apP Z p i)∧PV 100 wx g12 (asP Z p i)) (fun s13 _=>2*n+6-(intOf s13).toNat)
   case atStart=>exact ⟨0,3,rfl,rfl,by omega,y5,zR,v10,v11,v12⟩
   case round=>
   obtain ⟨i,J,rfl,hJ,hi,yr,zr,v10',vm,vs⟩:=hrel
   have HJ:=hid hJ
   clear y5 zR v10 v11 v12 hJ
   obtain ⟨a11,b11,c11,d11,z11,n11,m11⟩:=id vm
   obtain ⟨H,hH⟩: ∃H,H=(apP Z p i).2:=⟨_,rfl⟩
   rw [←hH] at z11 m11
   have HH:=hid hH
   obtain ⟨κ,hκ⟩: ∃κ,κ=cmpI (H:Int) ((1:Nat):Int):=⟨_,rfl⟩
   have CM1:=hid (fun b d w h k=>CM.out b11 d11 b d H w h k)
   rw [←hκ] at CM1
   have HK:=hid hκ
   clear hH hκ
   go_upto_region 8 with fail
   refine wp_region_grow 5 [38,39,40,41,42] [Fact.is (.pointer (some ⟨g11,1,none⟩)),Fact.is (.slice b11 (limbs H).length d11),Fact.li 1,Fact.is (.int .i64 κ),Fact.is (.bool (decide (0<κ)))] (by kernel_rfl) (by kernel_rfl) ⟨?o0,?o1,?o2,?o3,?o4,trivial⟩ ?after
   case o0=>(refine oQ rfl ?_;intro ρ w1 R hcon hfn hρ hb hp hR;have e11:ρ (.tmp 11)=.pointer (some ⟨g11,0,none⟩):=hρ.tmp 11 rfl;clear hρ hp;unfold OpRun;go_simp;exact hR _ _ (Below.refl _ _) rfl)
   case o1=>(refine oQ rfl ?_;intro ρ w1 R hcon hfn hρ hb hp hR;have e38:ρ (.tmp 38)=_:=hp 0 38 rfl rfl;obtain ⟨j0,j1,-⟩:=z11.below hb;clear hρ hp;unfold OpRun;go_simp;exact hR _ _ (Below.refl _ _) rfl)
   case o2=>(refine oQ rfl ?_;intro ρ w1 R hcon hfn hρ hb hp hR;clear hρ hp;unfold OpRun;go_simp;(refine (OF1.out _).mono ?_;rintro e wn ⟨a8,rfl,n8,hbn⟩;exact ⟨_,rfl,hR _ _ hbn ⟨a8,_,rfl,n8⟩⟩))
   case o3=>(refine oQ rfl ?_;intro ρ w1 R hcon hfn hρ hb hp hR;have e39:ρ (.tmp 39)=_:=hp 1 39 rfl rfl;have f40:=hp 2 40 rfl rfl;obtain ⟨a8,c8,e40,n8⟩:=f40;clear hρ hp;unfold OpRun;go_simp;(refine (CM1.out _ _ _ (m11.below hb) n8).mono ?_;rintro e wn ⟨rfl,hbn⟩;exact ⟨_,rfl,hR _ _ hbn rfl⟩))
   case o4=>(refine oQ rfl ?_;intro ρ w1 R hcon hfn hρ hb hp hR;have e41:ρ (.tmp 41)=_:=hp 3 41 rfl rfl;clear hρ hp;unfold OpRun;go_simp;exact hR _ _ (Below.refl _ _) rfl)
   case after=>
    intro u wn hb hf
    have e42:u 42=_:=hf 4 42 (by omega) rfl
    clear hf
    simp only [putAll,Act.put,List.setIfInBounds_toArray,List.set_cons_zero,List.set_cons_succ,List.drop_succ_cons,List.drop_zero,List.drop_nil]
    rw [e42]
    have yr1:=below_trans yr hb
    have zr1:=zr.below hb
    have vq1:=v10'.below hb
    have vm1:=vm.below hb
    have vs1:=vs.below hb
    have hc1:0<κ↔1<H:=by
     have h:=HK.out
     unfold cmpI at h
     split at h
     ·omega
     ·split at h<;>omega
    clear yr zr v10' vm vs hb z11 n11 m11
    by_cases hk:0<κ
    ·have hin:i<n:=by
      have h1:=HN1.out
      have h2:=HH.out
      by_cases e:i=n
      ·exfalso;rw [←e] at h1;omega
      ·omega
     have TI1:=hid (TI.out i)
     have OV1:=hid (OV.out i (by omega))
     have PL1:=hid (PL.out i (by omega))
     rw [HSQ.out] at TI1
     rw [show tmP (apP Z p i) (tmP Z Z p) p=apP Z p (i+1) from rfl] at TI1
     rw [←HSQ.out] at TI1
     rw [show plP (asP Z p i) (ovP (apP Z p (i+1)) (2*i+3))=asP Z p (i+1) from rfl] at PL1
     rw [←HJ.out] at OV1 PL1
     have hJb:J≤68719476740:=by have:=HJ.out;omega
     have wI:IntKind.i64.wrap ((J:Int)+2)=(J:Int)+2:=IntWalk.i64_in _ (by omega)
     obtain ⟨s9,r9,z9,p9⟩:=vm1.pr
     obtain ⟨s8,r8,z8,p8⟩:=vq1.pr
     have P9:=hid p9
     have P8:=hid p8
     clear p9 p8 hc1 TI OV PL CM1
     obtain ⟨j0,j1,f0,f1,-⟩:=id z9
     obtain ⟨i0,i1,-⟩:=id z8
     go_upto_region 11 with (go_at_call 120;(with_reducible refine (TI1.out _ _ _ P9.out P8.out).mono ?_);rintro en w5 ⟨v5,rfl,⟨a5,b5,c5,d5,rfl,n5,m5⟩,hb5⟩;have zz5:=z9.below hb5;obtain ⟨k0,k1,g0,g1,-⟩:=id zz5)
     have yr5:=below_trans yr1 hb5
     have zr5:=zr1.below hb5
     have vq5:=vq1.below hb5
     have vm5:=vm1.below hb5
     have vs5:=vs1.below hb5
     refine wp_wld9 (fun WW=>Below w.heap.size w WW∧P2 100 WW w.heap.size (.slice none 0 0) (.slice none 0 0)∧PV 100 WW g10 SQ∧PV 100 WW g11 (apP Z p (i+1))∧PV 100 WW g12 (asP Z p i)) ⟨below_put2 yr5 (by omega) _ _,(zr5.far _ _ (by show w.heap.size≠g11;omega)).far _ _ (by show w.heap.size≠g11;omega),vq5.far zz5 (by omega) (by obtain ⟨_,_,_,_,zq,-⟩:=vm1;obtain ⟨q0,-⟩:=zq;obtain ⟨q1,-⟩:=z9;rw [q0] at q1;injection q1 with q1;rw [←q1];exact sl_no) (by obtain ⟨_,_,_,_,zq,-⟩:=vm1;obtain ⟨-,q0,-⟩:=zq;obtain ⟨-,q1,-⟩:=z9;rw [q0] at q1;injection q1 with q1;rw [←q1];exact sl_no) _ _,vm5.put n5 m5,vs5.far zz5 (by omega) (by obtain ⟨_,_,_,_,zq,-⟩:=vm1;obtain ⟨q0,-⟩:=zq;obtain ⟨q1,-⟩:=z9;rw [q0] at q1;injection q1 with q1;rw [←q1];exact sl_no) (by obtain ⟨_,_,_,_,zq,-⟩:=vm1;obtain ⟨-,q0,-⟩:=zq;obtain ⟨-,q1,-⟩:=z9;rw [q0] at q1;injection q1 with q1;rw [←q1];exact sl_no) _ _⟩ ?_
     clear yr5 zr5 vq5 vm5 vs5 yr1 zr1 vq1 vm1 vs1 hb5 n5 m5 zz5 z9 z8 P9 P8 j0 j1 f0 f1 i0 i1 k0 k1 g0 g1
     intro W6 ⟨yr1,zr1,vq1,vm1,vs1⟩
     refine wp_region_grow 5 [49,50,51,52,53] [Fact.pr (asP Z p i),Fact.pr (apP Z p (i+1)),Fact.is (.int .i64 (J:Int)),Fact.pr (ovP (apP Z p (i+1)) J),Fact.pr (asP Z p (i+1))] (by kernel_rfl) (by kernel_rfl) ⟨?o0,?o1,?o2,?o3,?o4,trivial⟩ ?after
     case o0=>(refine oQ rfl ?_;intro ρ w1 R hcon hfn hρ hb hp hR;have e12:ρ (.tmp 12)=.pointer (some ⟨g12,0,none⟩):=hρ.tmp 12 rfl;obtain ⟨v0,v1,⟨q0,q1,-⟩,qp⟩:=(vs1.below hb).pr;clear hρ hp;unfold OpRun;go_simp;exact hR _ _ (Below.refl _ _) qp)
     case o1=>(refine oQ rfl ?_;intro ρ w1 R hcon hfn hρ hb hp hR;have e11:ρ (.tmp 11)=.pointer (some ⟨g11,0,none⟩):=hρ.tmp 11 rfl;obtain ⟨v0,v1,⟨q0,q1,-⟩,qp⟩:=(vm1.below hb).pr;clear hρ hp;unfold OpRun;go_simp;exact hR _ _ (Below.refl _ _) qp)
     case o2=>(refine oQ rfl ?_;intro ρ w1 R hcon hfn hρ hb hp hR;have e13:ρ (.tmp 13)=.int .i64 (J:Int):=hρ.tmp 13 rfl;clear hρ hp;unfold OpRun;go_simp;exact hR _ _ (Below.refl _ _) rfl)
     case o3=>(refine oQ rfl ?_;intro ρ w1 R hcon hfn hρ hb hp hR;have f50:=hp 1 50 rfl rfl;have e51:ρ (.tmp 51)=_:=hp 2 51 rfl rfl;clear hρ hp;unfold OpRun;go_simp;(refine (OV1.out _ _ f50).mono ?_;rintro e wn ⟨v9,rfl,hv9,hbn⟩;exact ⟨_,rfl,hR _ _ hbn hv9⟩))
     case o4=>(refine oQ rfl ?_;intro ρ w1 R hcon hfn hρ hb hp hR;have f49:=hp 0 49 rfl rfl;have f52:=hp 3 52 rfl rfl;clear hρ hp;unfold OpRun;go_simp;(refine (PL1.out _ _ _ f49 f52).mono ?_;rintro e wn ⟨v9,rfl,hv9,hbn⟩;exact ⟨_,rfl,hR _ _ hbn hv9⟩))
     case after=>
      intro u wn hb hf
      have f53:=hf 4 53 (by omega) rfl
      clear hf
      simp only [putAll,Act.put,List.setIfInBounds_toArray,List.set_cons_zero,List.set_cons_succ,List.drop_succ_cons,List.drop_zero,List.drop_nil]
      obtain ⟨a5,b5,c5,d5,e53,n5,m5⟩:=f53
      rw [e53]
      clear e53
      have yr5:=below_trans yr1 hb
      have zr5:=zr1.below hb
      have vq5:=vq1.below hb
      have vm5:=vm1.below hb
      have vs5:=vs1.below hb
      obtain ⟨a9,b9,c9,d9,z95,-,-⟩:=id vs5
      obtain ⟨j0,j1,f0,f1,-⟩:=id z95
      go_upto_region 9 with fail
      refine wp_wld9 (fun WW=>Below w.heap.size w WW∧P2 100 WW w.heap.size (.slice none 0 0) (.slice none 0 0)∧PV 100 WW g10 SQ∧PV 100 WW g11 (apP Z p (i+1))∧PV 100 WW g12 (asP Z p (i+1))) ⟨below_put2 yr5 (by omega) _ _,(zr5.far _ _ (by show w.heap.size≠g12;omega)).far _ _ (by show w.heap.size≠g12;omega),vq5.far z95 (by omega) sl_no sl_no _ _,vm5.far z95 (by omega) sl_no sl_no _ _,vs5.put n5 m5⟩ ?_
      clear yr5 zr5 vq5 vm5 vs5 z95 yr1 zr1 vq1 vm1 vs1 hb n5 m5 j0 j1 f0 f1
      intro W7 ⟨yr1,zr1,vq1,vm1,vs1⟩
      go_wp2_with fail
      go_roundw
      case rel=>exact ⟨i+1,J+2,by go_num,by have:=HJ.out;omega,by omega,yr1,zr1,vq1,vm1,vs1⟩
      case measure=>have h9:=HJ.out;simp [intOf];omega
    ·have hin:i=n:=by
      by_cases e:i<n
      ·exfalso
       have h1:=HN2.out i e
       have h2:=HH.out
       omega
      ·omega
     subst hin
     obtain ⟨S9,hS9⟩: ∃S,S=asP Z p i:=⟨_,rfl⟩
     rw [←hS9] at vs1 PL4 PE
     have HS9:=hid hS9
     obtain ⟨l,h⟩:=S9
     clear hS9 TI OV PL CM CM1 HN1 HN2 HH HK hc1 vm1 vq1
     obtain ⟨a10,b10,c10,d10,z10,n10,m10⟩:=id vs1
     go_upto_region 12 with fail
     obtain ⟨h4,hh4⟩: ∃x,x=h+4:=⟨_,rfl⟩
     simp only at PL4 PE
     rw [←hh4] at PL4 PE
     have HH4:=hid hh4
     clear hh4
     refine wp_region_grow 5 [54,55,56,57,58] [Fact.is (.pointer (some ⟨g12,1,none⟩)),Fact.is (.slice b10 (limbs h).length d10),Fact.li 4,Fact.li h4,Fact.is (.pointer (some ⟨g12,1,none⟩))] (by kernel_rfl) (by kernel_rfl) ⟨?o0,?o1,?o2,?o3,?o4,trivial⟩ ?after
     case o0=>(refine oQ rfl ?_;intro ρ w1 R hcon hfn hρ hb hp hR;have e12:ρ (.tmp 12)=.pointer (some ⟨g12,0,none⟩):=hρ.tmp 12 rfl;clear hρ hp;unfold OpRun;go_simp;exact hR _ _ (Below.refl _ _) rfl)
     case o1=>(refine oQ rfl ?_;intro ρ w1 R hcon hfn hρ hb hp hR;have e54:ρ (.tmp 54)=_:=hp 0 54 rfl rfl;obtain ⟨i0,i1,-⟩:=z10.below hb;clear hρ hp;unfold OpRun;go_simp;exact hR _ _ (Below.refl _ _) rfl)
     case o2=>(refine oQ rfl ?_;intro ρ w1 R hcon hfn hρ hb hp hR;clear hρ hp;unfold OpRun;go_simp;(refine (OF4.out _).mono ?_;rintro e wn ⟨a8,rfl,n8,hbn⟩;exact ⟨_,rfl,hR _ _ hbn ⟨a8,_,rfl,n8⟩⟩))
     case o3=>(refine oQ rfl ?_;intro ρ w1 R hcon hfn hρ hb hp hR;have e55:ρ (.tmp 55)=_:=hp 1 55 rfl rfl;have f56:=hp 2 56 rfl rfl;obtain ⟨a8,c8,e56,n8⟩:=f56;clear hρ hp;unfold OpRun;go_simp;(skip;refine (PL4.out _ _ _ _ _ (m10.below hb) n8).mono ?_;rintro e wn ⟨a7,rfl,n7,hbn⟩;exact ⟨_,rfl,hR _ _ hbn ⟨a7,_,rfl,n7⟩⟩))
     case o4=>(refine oQ rfl ?_;intro ρ w1 R hcon hfn hρ hb hp hR;have e12:ρ (.tmp 12)=.pointer (some ⟨g12,0,none⟩):=hρ.tmp 12 rfl;clear hρ hp;unfold OpRun;go_simp;exact hR _ _ (Below.refl _ _) rfl)
     case after=>
      intro u wn hb hf
      have f57:=hf 3 57 (by omega) rfl
      have e58:u 58=_:=hf 4 58 (by omega) rfl
      clear hf
      simp only [putAll,Act.put,List.setIfInBounds_toArray,List.set_cons_zero,List.set_cons_succ,List.drop_succ_cons,List.drop_zero,List.drop_nil]
      rw [e58]
      obtain ⟨a47,c47,e47,n47⟩:=f57
      rw [e47]
      have yr2:=below_trans yr1 hb
      have zr2:=zr1.below hb
      have zz:=z10.below hb
      have nn:=n10.below hb
      obtain ⟨i0,i1,f0,f1,-⟩:=id zz
      clear yr1 zr1 vs1 z10 n10 m10 hb e47
      go_upto_region 13 with fail
      refine wp_wld9 (fun WW=>Below w.heap.size w WW∧P2 100 WW w.heap.size (.slice none 0 0) (.slice none 0 0)∧PV 100 WW g12 (l,h4)) ⟨yr2.setCell (p:=⟨g12,1,none⟩) (by show w.heap.size≤g12;omega) _,zr2.far _ _ (by show w.heap.size≠g12;omega),PV.put1 zz sl_no nn n47⟩ ?_
      clear yr2 zr2 zz nn i0 i1 f0 f1 n47
      intro W8 ⟨y1,zR,vS⟩
      obtain ⟨s8,r8,z8,p8⟩:=vS.pr
      obtain ⟨i0,i1,-⟩:=id z8
      go_wp2_with (go_at_call 121;(with_reducible refine (PE.out _ _ _ p8 p8).mono ?_);rintro en w4 ⟨v4,rfl,⟨a5,b5,c5,d5,rfl,n5,m5⟩,hb4⟩;have zz4:=zR.below hb4;obtain ⟨k0,k1,f0,f1,-⟩:=id zz4)
      refine bodyPost_ret (by simp [results,Tryz.results105,go_sem,k0,k1];try rfl) rfl ?_
      have e9:(2*(asP Z p i).1,2*((asP Z p i).2+4))=(2*l,2*h4):=by rw [←HS9.out,HH4.out]
      rw [e9]
      exact ⟨_,rfl,⟨_,_,_,_,rfl,n5.put2 zz4 sl_no sl_no _ _,m5.put2 zz4 sl_no sl_no _ _⟩,below_put2 (below_trans y1 hb4) (Nat.le_refl _) _ _⟩
end Go.Proofs.YtehhegbkahnhgaaGreatDoor
namespace Go.Ulp
open Go.RowKit
theorem sgP_true (x:PP) (p:Nat):nrm (sgP x true).1 (-(p:Int))=negD (nrm (x.2:Int) (-(p:Int)))∧nrm (sgP x true).2 (-(p:Int))=negD (nrm (x.1:Int) (-(p:Int))):=by
 unfold sgP
 rw [if_pos rfl,←nrm_neg,←nrm_neg]
 exact ⟨rfl,rfl⟩
theorem sgP_false (x:PP):sgP x false=((x.1:Int),(x.2:Int)):=by unfold sgP;rw [if_neg (by simp)]
end Go.Ulp
namespace Go.Proofs.YtehhegbkahnhgaaGreatDoor
open Go.RowKit Go.Ulp
set_option maxHeartbeats 4000000
set_option maxRecDepth 100000
theorem signed_any (x:PP) (neg:Bool) (p:Nat) (v:Value) (w:World) (hv:PR w x v) (l1:(limbs x.1).length≤4294967296) (l2:(limbs x.2).length≤4294967296) (hp:p≤1099511627776) (hT:Tab 0 w):
 Calls Tryz.prog 104 #[v,.bool neg,.int .i64 (p:Int)] w (RetVD2 w (nrm (sgP x neg).1 (-(p:Int))) (nrm (sgP x neg).2 (-(p:Int)))):=by
 have DY:=hid (fun v w h t=>dyads_any x p v w h l1 l2 hp t)
 have lD: ∀(z:Nat),(limbs z).length≤4294967296→(limbs (nrm (z:Int) (-(p:Int))).1.natAbs).length≤4294967296:=fun z hz=>by
  refine Nat.le_trans (limbs_len_mono ?_) hz
  by_cases h0:z=0
  ·rw [h0];show ((0:Int)).natAbs≤0;exact Nat.le_refl _
  ·obtain ⟨k,hk,-⟩:=nrm_rep (z:Int) (-(p:Int))
   have e:z=(nrm (z:Int) (-(p:Int))).1.natAbs*2^k:=by rw [←natAbs_mul_pw,←hk,Int.natAbs_natCast]
   exact Nat.le_trans (Nat.le_mul_of_pos_right _ (Nat.two_pow_pos k)) (Nat.le_of_eq e.symm)
 have OL:=hid (fun v w h=>opp_any v (nrm (x.1:Int) (-(p:Int))) w h (lD _ l1))
 have OH:=hid (fun v w h=>opp_any v (nrm (x.2:Int) (-(p:Int))) w h (lD _ l2))
 clear lD
 obtain ⟨D,hD⟩: ∃D,D=nrm (x.1:Int) (-(p:Int)):=⟨_,rfl⟩
 obtain ⟨E,hE⟩: ∃E,E=nrm (x.2:Int) (-(p:Int)):=⟨_,rfl⟩
 rw [←hD] at OL DY
 rw [←hE] at OH DY
 have HD:=hid hD
 have HE:=hid hE
 clear hD hE
 have HV:=hid hv
 obtain ⟨a,b,c,d,rfl,-,-⟩:=hv
 have zA:P2 100 (((w.alloc (.cells #[.slice a (limbs x.1).length c,.slice b (limbs x.2).length d] 100)).alloc (.cells #[.bool false,.slice none 0 0,.int .i64 0] 38)).alloc (.cells #[.bool false,.slice none 0 0,.int .i64 0] 38)) w.heap.size (.slice a (limbs x.1).length c) (.slice b (limbs x.2).length d):=((P2.made rfl).below (below_alloc _ _)).below (below_alloc _ _)
 have zR:QL 38 (((w.alloc (.cells #[.slice a (limbs x.1).length c,.slice b (limbs x.2).length d] 100)).alloc (.cells #[.bool false,.slice none 0 0,.int .i64 0] 38)).alloc (.cells #[.bool false,.slice none 0 0,.int .i64 0] 38)) (w.heap.size+1) false (.slice none 0 0) 0:=(QL.made (by simp)).alloc _
 have zS:QL 38 (((w.alloc (.cells #[.slice a (limbs x.1).length c,.slice b (limbs x.2).length d] 100)).alloc (.cells #[.bool false,.slice none 0 0,.int .i64 0] 38)).alloc (.cells #[.bool false,.slice none 0 0,.int .i64 0] 38)) (w.heap.size+1+1) false (.slice none 0 0) 0:=QL.made (by simp)
 have yb0:Below w.heap.size w (((w.alloc (.cells #[.slice a (limbs x.1).length c,.slice b (limbs x.2).length d] 100)).alloc (.cells #[.bool false,.slice none 0 0,.int .i64 0] 38)).alloc (.cells #[.bool false,.slice none 0 0,.int .i64 0] 38)):=by (repeat' first|(with_reducible first|assumption|apply bR|apply bA|apply bN|apply bD|apply bL|apply bS)|refine bT ?_ (by assumption)|go_size)
 have HT:=hid hT
 clear hT l1 l2
 go_enter Tryz.func104,Tryz.ntmps104
 go_upto_region 1 with fail
 refine wp_wld9 (fun WW=>Below w.heap.size w WW∧P2 100 WW w.heap.size (.slice a (limbs x.1).length c) (.slice b (limbs x.2).length d)∧QL 38 WW (w.heap.size+1) false (.slice none 0 0) 0∧QL 38 WW (w.heap.size+1+1) false (.slice none 0 0) 0) ⟨yb0,zA,zR,zS⟩ ?_
 clear zA zR zS yb0
 intro W1 ⟨y1,zA,zR,zS⟩
 obtain ⟨j0,j1,-⟩:=id zA
 go_upto_region 2 with (go_at_call 93;(with_reducible refine (DY.out _ _ (HV.out.below y1) (HT.out.below y1)).mono ?_);rintro en w2 ⟨v2,u2,rfl,⟨a3,c3,rfl,n3⟩,⟨a4,c4,rfl,n4⟩,hb2⟩)
 have hltS:=(zS.below hb2).lt
 refine wp_wld9 (fun WW=>Below w.heap.size w WW∧QL 38 WW (w.heap.size+1) false (.slice none 0 0) 0∧QL 38 WW (w.heap.size+1+1) false (.slice none 0 0) 0∧QL 38 WW w2.heap.size (decide (D.1<0)) (.slice a3 (limbs D.1.natAbs).length c3) D.2∧QL 38 WW (w2.heap.size+1) (decide (E.1<0)) (.slice a4 (limbs E.1.natAbs).length c4) E.2∧Ns .u32 WW a3 c3 (limbs D.1.natAbs)∧Ns .u32 WW a4 c4 (limbs E.1.natAbs)) ⟨below_trans (below_trans (below_trans y1 hb2) (below_alloc _ _)) (below_alloc _ _),((zR.below hb2).alloc _).alloc _,((zS.below hb2).alloc _).alloc _,(QL.made rfl).alloc _,QL.made (by simp),(n3.below (below_alloc _ _)).below (below_alloc _ _),(n4.below (below_alloc _ _)).below (below_alloc _ _)⟩ ?_
 obtain ⟨g8,hg8⟩: ∃g,g=w2.heap.size:=⟨_,rfl⟩
 rw [←hg8] at hltS ⊢
 clear y1 zA zR zS n3 n4 hb2 hg8 j0 j1 DY HV
 intro W3 ⟨y3,zR,zS,z8,z9,n3,n4⟩
 cases neg
 ·have HF:Hid (((sgP x false).1,(sgP x false).2)=((x.1:Int),(x.2:Int))):=hid (by rw [sgP_false])
  have e1:nrm (sgP x false).1 (-(p:Int))=D:=by rw [sgP_false,HD.out]
  have e2:nrm (sgP x false).2 (-(p:Int))=E:=by rw [sgP_false,HE.out]
  have E1:=hid e1
  have E2:=hid e2
  clear e1 e2 HF
  go_upto_region 4 with fail
  obtain ⟨⟨i0,i1,-⟩,i2,-⟩:=id z8
  obtain ⟨⟨j0,j1,-⟩,j2,-⟩:=id z9
  obtain ⟨⟨k0,k1,f0,f1,hs2⟩,k2,f2⟩:=id zR
  obtain ⟨⟨m0,m1,g0,g1,hs3⟩,m2,g2⟩:=id zS
  go_region
  all_goals go_wp2_with fail
  all_goals (
   refine bodyPost_ret (by simp [results,Tryz.results104,go_sem,k0,k1,k2,m0,m1,m2];try rfl) rfl ?_
   rw [E1.out,E2.out]
   have zS3:=zS.far3 (b:=w.heap.size+1) (by omega) (.bool (decide (D.1<0))) (.slice a3 (limbs D.1.natAbs).length c3) (.int .i64 D.2)
   exact ⟨_,_,rfl,⟨a3,c3,rfl,((n3.set3 zR (by intro x h;cases h) _ _ _).set3 zS3 (by intro x h;cases h) _ _ _).below (Below.drew (Below.refl _ _))⟩,⟨a4,c4,rfl,((n4.set3 zR (by intro x h;cases h) _ _ _).set3 zS3 (by intro x h;cases h) _ _ _).below (Below.drew (Below.refl _ _))⟩,Below.drew (Go.Ulp.Below.put3 (Go.Ulp.Below.put3 y3 (by omega) _ _ _) (by omega) _ _ _)⟩)
 ·have e12:nrm (sgP x true).1 (-(p:Int))=negD E∧nrm (sgP x true).2 (-(p:Int))=negD D:=by
   obtain ⟨e1,e2⟩:=sgP_true x p
   rw [e1,e2,←HD.out,←HE.out]
   exact ⟨rfl,rfl⟩
  have E12:=hid e12
  clear e12
  go_upto_region 3 with fail
  refine wp_region_grow 4 [17,18,19,20] [Fact.vd E,Fact.vd (negD E),Fact.vd D,Fact.vd (negD D)] (by kernel_rfl) (by kernel_rfl) ⟨?o0,?o1,?o2,?o3,trivial⟩ ?after
  case o0=>(refine oQ rfl ?_;intro ρ w1 R hcon hfn hρ hb hp hR;have e9:ρ (.tmp 9)=.pointer (some ⟨(g8+1),0,none⟩):=hρ.tmp 9 rfl;obtain ⟨⟨j0,j1,-⟩,j2,-⟩:=z9.below hb;clear hρ hp;unfold OpRun;go_simp;exact hR _ _ (Below.refl _ _) ⟨a4,c4,rfl,n4.below hb⟩)
  case o1=>(refine oQ rfl ?_;intro ρ w1 R hcon hfn hρ hb hp hR;have f17:=hp 0 17 rfl rfl;clear hρ hp;unfold OpRun;go_simp;(refine (OH.out _ _ f17).mono ?_;rintro e wn ⟨v9,rfl,hv9,hbn⟩;exact ⟨_,rfl,hR _ _ hbn hv9⟩))
  case o2=>(refine oQ rfl ?_;intro ρ w1 R hcon hfn hρ hb hp hR;have e8:ρ (.tmp 8)=.pointer (some ⟨g8,0,none⟩):=hρ.tmp 8 rfl;obtain ⟨⟨j0,j1,-⟩,j2,-⟩:=z8.below hb;clear hρ hp;unfold OpRun;go_simp;exact hR _ _ (Below.refl _ _) ⟨a3,c3,rfl,n3.below hb⟩)
  case o3=>(refine oQ rfl ?_;intro ρ w1 R hcon hfn hρ hb hp hR;have f19:=hp 2 19 rfl rfl;clear hρ hp;unfold OpRun;go_simp;(refine (OL.out _ _ f19).mono ?_;rintro e wn ⟨v9,rfl,hv9,hbn⟩;exact ⟨_,rfl,hR _ _ hbn hv9⟩))
  case after=>
   intro u wn hb hf
   have f18:=hf 1 18 (by omega) rfl
   have f20:=hf 3 20 (by omega) rfl
   clear hf
   simp only [putAll,Act.put,List.setIfInBounds_toArray,List.set_cons_zero,List.set_cons_succ,List.drop_succ_cons,List.drop_zero,List.drop_nil]
   obtain ⟨a5,c5,e18,hN3⟩:=f18
   obtain ⟨a6,c6,e20,hN4⟩:=f20
   rw [e18,e20]
   have zR2:=zR.below hb
   have zS2:=zS.below hb
   have yb2:=below_trans y3 hb
   clear zR zS z8 z9 n3 n4 y3 hb e18 e20
   obtain ⟨⟨k0,k1,f0,f1,hs2⟩,k2,f2⟩:=id zR2
   obtain ⟨⟨m0,m1,g0,g1,hs3⟩,m2,g2⟩:=id zS2
   obtain ⟨D',hD'⟩: ∃D',D'=negD E:=⟨_,rfl⟩
   obtain ⟨E',hE'⟩: ∃E',E'=negD D:=⟨_,rfl⟩
   have HD':=hid hD'
   have HE':=hid hE'
   rw [←hD'] at hN3 ⊢
   rw [←hE'] at hN4 ⊢
   clear hD' hE'
   go_wp2_with fail
   refine bodyPost_ret (by simp [results,Tryz.results104,go_sem,k0,k1,k2,m0,m1,m2];try rfl) rfl ?_
   rw [E12.out.1,E12.out.2,←HD'.out,←HE'.out]
   have zS3:=zS2.far3 (b:=w.heap.size+1) (by omega) (.bool (decide (D'.1<0))) (.slice a5 (limbs D'.1.natAbs).length c5) (.int .i64 D'.2)
   exact ⟨_,_,rfl,⟨a5,c5,rfl,(hN3.set3 zR2 (by intro x h;cases h) _ _ _).set3 zS3 (by intro x h;cases h) _ _ _⟩,⟨a6,c6,rfl,(hN4.set3 zR2 (by intro x h;cases h) _ _ _).set3 zS3 (by intro x h;cases h) _ _ _⟩,Go.Ulp.Below.put3 (Go.Ulp.Below.put3 yb2 (by omega) _ _ _) (by omega) _ _ _⟩
end Go.Proofs.YtehhegbkahnhgaaGreatDoor
