/- ExpoExps: what the proof leans on, part 20 (Se4 Sg0 Sg1 Sg2 Se5). -/
import Derived.Test.YtehhegbkahnhgaaGreatDoorKExpoExps11
import Derived.Test.YtehhegbkahnhgaaGreatDoorKExpoExps18
import Derived.Test.YtehhegbkahnhgaaGreatDoorKExpoExps19
set_option linter.unusedVariables false
set_option linter.unusedSimpArgs false
namespace Go.Ulp
open Go.RowKit
theorem bl_len9 (m K:Nat) (h:(limbs m).length≤K):bl m≤32*K:=(bl_le m (32*K)).2 ((limbs_le_bits m K).1 h)
theorem wp_wld9 {P:Program} {c:Code} {Q:Exit→Act→World→Prop} {a:Act} {w0:World} (F:World→Prop) (hF:F w0) (h: ∀w,F w→Code.wp P c Q a w):Code.wp P c Q a w0:=h w0 hF
theorem PV.put1 {t:TypeId} {w:World} {g l h:Nat} {a b:Option Addr} {c d:Nat} {v1:Value} (z:P2 t w g (.slice a (limbs l).length c) v1) (k: ∀x,v1≠ .int .u32 x) (n:Ns .u32 w a c (limbs l)) (m:Ns .u32 w b d (limbs h)):
 PV t (w.setCell ⟨g,1,none⟩ (.slice b (limbs h).length d)) g (l,h):=by
 obtain ⟨h0,h1,f0,f1,he⟩:=z
 exact ⟨a,b,c,d,⟨(cell_set_ne (by omega)).trans h0,World.cell?_setCell_same _ _ _ h1,(frozen_setCell _ _ _ _).trans f0,(frozen_setCell _ _ _ _).trans f1,he.setCell _ _⟩,Ns.setCell_kind n ⟨g,1,none⟩ _ v1 h1 k,Ns.setCell_kind m ⟨g,1,none⟩ _ v1 h1 k⟩
theorem sq_len (X:PP) (p j:Nat) (h:X.2≤2^(p+2)) (h01:X.1≤X.2) (hj:j≤26):(sqP X p j).1≤2^(p+201326592)∧(sqP X p j).2≤2^(p+201326592):=by
 have a:=sq_top h j
 have b:2^j≤2^26:=Nat.pow_le_pow_right (by omega) hj
 have c:(sqP X p j).2≤2^(p+201326592):=Nat.le_trans a (Nat.pow_le_pow_right (by omega) (by omega))
 exact ⟨Nat.le_trans (sqP_le p h01 j) c,c⟩
theorem fx_one (p:Nat):fxP 1 0 p=(2^p,2^p):=by
 unfold fxP
 rw [if_pos (by omega),Int.zero_add,Int.toNat_natCast,Nat.one_mul]
theorem sN_cast (B:Nat) (e:Int):((sN B e:Nat):Int)=max 0 ((B:Int)+e+16):=by unfold sN;omega
end Go.Ulp
namespace Go.Proofs.YtehhegbkahnhgaaGreatDoor
open Go.RowKit Go.Ulp
set_option maxHeartbeats 4000000
set_option maxRecDepth 100000
theorem grow_any (m:Nat) (e:Int) (p:Nat) (a:Option Addr) (c:Nat) (w:World) (h0:Ns .u32 w a c (limbs m)) (l1:(limbs m).length≤100) (he: -100000≤e∧e≤100000) (hp0:20≤p) (hp:p≤34359738368) (hs:sN (bl m) e≤26):
 Calls Tryz.prog 92 #[.slice a (limbs m).length c,.int .i64 e,.int .i64 (p:Int)] w fun en w'=> ∃n,n≤p∧(grT (tS m (bl m) e p) p n).2≤1∧RetPR w (growP m (bl m) e p n) en w':=by
 have hm:=lt_bl m
 have htop:=tS_top m (bl m) e p hm (by omega)
 obtain ⟨n,hn,hn1,hn2⟩:=gr_end (t:=tS m (bl m) e p) (p:=p) (by omega) (Nat.le_trans htop (Nat.pow_le_pow_right (by omega) (by omega)))
 obtain ⟨s,hsS⟩: ∃s,s=sN (bl m) e:=⟨_,rfl⟩
 have hsC:=sN_cast (bl m) e
 rw [←hsS] at hsC hs
 obtain ⟨T,hT⟩: ∃T,T=tS m (bl m) e p:=⟨_,rfl⟩
 have hTe:T=fxP m (e-(s:Int)) p:=by rw [hT,hsS];rfl
 have hG:growP m (bl m) e p n=sqP (up4 (geS T p n)) p s:=by rw [hT,hsS];rfl
 rw [←hT] at htop hn1 hn2
 have hblm:bl m≤3200:=bl_len9 m 100 l1
 have LN:=hid (fun w h=>natLen_any a c m w h (by omega))
 have FX:=hid (fun w h=>fixed_any m (e-(s:Int)) p a c w h (by omega) (by omega) (by omega))
 rw [←hTe] at FX
 have F1:=hid (fun a c w h=>fixed_any 1 0 p a c w h (by decide) (by omega) (by omega))
 rw [fx_one,show ((2^p,2^p):PP)=grT T p 0 from rfl] at F1
 have hT01:T.1≤T.2:=by rw [hTe];exact (fx_wd _ _ _).1
 have hTk:T.2≤2^p:=Nat.le_trans htop (Nat.pow_le_pow_right (by omega) (by omega))
 have hT1:T.2≤2^(p-1):=Nat.le_trans htop (Nat.pow_le_pow_right (by omega) (by omega))
 have G2:=fun i=>grT_top (t:=T) (p:=p) (by omega) hT1 i
 have G1:=fun i=>Nat.le_trans (grT_le p hT01 i) (G2 i)
 have S2: ∀i,i≤p→(geS T p i).2≤2^(p+1):=fun i hi=>Nat.le_trans (Nat.le_add_right _ _) (grS_top (by omega) hT1 i hi)
 have S1: ∀i,i≤p→(geS T p i).1≤2^(p+1):=fun i hi=>Nat.le_trans (grS_le p hT01 i) (S2 i hi)
 have TI:=hid (fun i v u w hv hu=>times9_any (grT T p i) T p v u w hv hu (len_le (G1 i) (by omega)) (len_le (G2 i) (by omega)) (len_le (Nat.le_trans hT01 hTk) (by omega)) (len_le hTk (by omega)) (len_le (two_mul_pow (G1 i) (Nat.le_trans hT01 hTk)) (by omega)) (len_le (two_mul_pow (G2 i) hTk) (by omega)) (by omega))
 have tm2: ∀i,(tmP (grT T p i) T p).2≤2^p:=fun i=>by
  show cdiv ((grT T p i).2*T.2) (2^p)≤_
  refine cdiv_le (Nat.two_pow_pos p) ?_
  exact Nat.mul_le_mul (G2 i) hTk
 have tm1: ∀i,(tmP (grT T p i) T p).1≤2^p:=fun i=>Nat.le_trans (tmP_le p (grT_le p hT01 i) hT01) (tm2 i)
 have OV:=hid (fun (i:Nat) (hi:i≤p) v w hv=>over9_any (tmP (grT T p i) T p) (i+1) v w hv (len_le (tm1 i) (by omega)) (len_le (tm2 i) (by omega)) (by omega) (by omega))
 have PL:=hid (fun (i:Nat) (hi:i+1≤p) v u w hv hu=>plus9_any (geS T p i) (grT T p (i+1)) v u w hv hu (len_le (S1 i (by omega)) (by omega)) (len_le (S2 i (by omega)) (by omega)) (len_le (G1 (i+1)) (by omega)) (len_le (G2 (i+1)) (by omega)))
 have CM:=hid (fun (a:Option Addr) (c:Nat) (b:Option Addr) (d H:Nat) (w:World) (h:Ns .u32 w a c (limbs H)) (k:Ns .u32 w b d (limbs 1))=>(compare_any a b c d H 1 w h k).mono (fun en w' hh=>(⟨hh.1,by obtain ⟨nq,hq⟩:=hh.2;rw [hq];exact below_drewN (Below.refl _ _) _⟩:en=.returned (.int .i64 (cmpI (H:Int) ((1:Nat):Int)))∧Below w.heap.size w w')))
 obtain ⟨X,hX⟩: ∃X,X=up4 (geS T p n):=⟨_,rfl⟩
 have hX2:X.2≤2^(p+2):=by
  rw [hX]
  have a:=S2 n hn
  have b:2^2≤2^(p+1):=Nat.pow_le_pow_right (by omega) (by omega)
  show (geS T p n).2+4≤_
  rw [Nat.pow_succ];omega
 have hX01:X.1≤X.2:=by rw [hX];exact Nat.le_trans (grS_le p hT01 n) (Nat.le_add_right _ _)
 have SQ:=hid (fun (j:Nat) (hj:j≤26) v u w hv hu=>times9_any (sqP X p j) (sqP X p j) p v u w hv hu (len_le (sq_len X p j hX2 hX01 hj).1 (by omega)) (len_le (sq_len X p j hX2 hX01 hj).2 (by omega)) (len_le (sq_len X p j hX2 hX01 hj).1 (by omega)) (len_le (sq_len X p j hX2 hX01 hj).2 (by omega)) (len_le (two_mul_pow (sq_len X p j hX2 hX01 hj).1 (sq_len X p j hX2 hX01 hj).1) (by omega)) (len_le (two_mul_pow (sq_len X p j hX2 hX01 hj).2 (sq_len X p j hX2 hX01 hj).2) (by omega)) (by omega))
 have HXX:=hid hX
 have OF4:=hid (show ∀w,Calls Tryz.prog 66 #[.int .u64 4] w fun e w'=>RetN w 4 e w' from fun w=>natOf_any 4 (by omega) w)
 have PL4:=hid (fun a c b d w k1 k2=>plus_any a b c d (geS T p n).2 4 w k1 k2 (len_le (S2 n hn) (by omega)) (by decide))
 have OF:=hid (show ∀w,Calls Tryz.prog 66 #[.int .u64 1] w fun e w'=>RetN w 1 e w' from fun w=>natOf_any 1 (by omega) w)
 have H0:=hid h0
 have w1:IntKind.i64.wrap ((bl m:Int)+e)=(bl m:Int)+e:=IntWalk.i64_in _ (by omega)
 have w2:IntKind.i64.wrap ((bl m:Int)+e+16)=(bl m:Int)+e+16:=IntWalk.i64_in _ (by omega)
 have w3:IntKind.i64.wrap (e-(s:Int))=e-(s:Int):=IntWalk.i64_in _ (by omega)
 refine Calls.mono (R:=RetPR w (sqP X p s)) ?_ (fun en w' h=>⟨n,hn,by rw [hT] at hn1;exact hn1,by rw [hG,←hX];exact h⟩)
 obtain ⟨B,hB⟩: ∃B,B=bl m:=⟨_,rfl⟩
 rw [←hB] at LN w1 w2 hsC hblm
 clear h0 hG hTe hT hsS hm hB G1 G2 S1 S2 tm1 tm2 hT01 hTk hT1 htop hX hX2 hX01
 have HN1:=hid hn1
 have HN2:=hid hn2
 clear hn1 hn2
 go_enter Tryz.func92,Tryz.ntmps92
 go_upto_region 2 with (go_at_call 67;(with_reducible refine (LN.out _ (H0.out.below (by (repeat' first|(with_reducible first|assumption|apply bR|apply bA|apply bN|apply bD|apply bL|apply bS)|refine bT ?_ (by assumption)|go_size)))).mono ?_);rintro en w4 ⟨rfl,rfl⟩)
 rw [←hsC]
 clear hsC w1 w2
 have yb0:=below_alloc w (.cells #[.slice none 0 0,.slice none 0 0] 100)
 have zR:P2 100 (w.alloc (.cells #[.slice none 0 0,.slice none 0 0] 100)) w.heap.size (.slice none 0 0) (.slice none 0 0):=P2.made rfl
 obtain ⟨g6,hg6⟩: ∃g,g=w.heap.size:=⟨_,rfl⟩
 go_upto_region 3 with (go_at_call 118;(with_reducible refine (FX.out _ (H0.out.below yb0)).mono ?_);rintro en w5 ⟨v5,rfl,⟨a5,b5,c5,d5,rfl,n5,m5⟩,hb5⟩)
 refine wp_wld9 (fun WW=>Below w.heap.size w WW∧P2 100 WW w.heap.size (.slice none 0 0) (.slice none 0 0)∧PV 100 WW w5.heap.size T) ⟨below_trans (below_trans yb0 hb5) (below_alloc _ _),(zR.below hb5).below (below_alloc _ _),PV.made rfl n5 m5⟩ ?_
 have hg8:w.heap.size<w5.heap.size:=by have:=zR.below hb5;exact this.lt
 clear yb0 zR n5 m5
 intro W1 ⟨y1,zR,vT⟩
 obtain ⟨g8,hg8e⟩: ∃g,g=w5.heap.size:=⟨_,rfl⟩
 rw [←hg8e] at vT hg8 ⊢
 clear hg8e hb5
 go_upto_region 4 with (first
  |(go_at_call 66;(with_reducible refine (OF.out _).mono ?_);rintro en w6 ⟨b6,rfl,n6,hb6⟩)
  |(go_at_call 118;(with_reducible refine (F1.out _ _ _ n6).mono ?_);rintro en w7 ⟨v7,rfl,⟨a7,b7,c7,d7,rfl,n7,m7⟩,hb7⟩))
 refine wp_wld9 (fun WW=>Below w.heap.size w WW∧P2 100 WW w.heap.size (.slice none 0 0) (.slice none 0 0)∧PV 100 WW g8 T∧PV 100 WW w7.heap.size (grT T p 0)) ⟨below_trans (below_trans (below_trans y1 hb6) hb7) (below_alloc _ _),((zR.below hb6).below hb7).below (below_alloc _ _),((vT.below hb6).below hb7).below (below_alloc _ _),PV.made rfl n7 m7⟩ ?_
 have hg9:g8<w7.heap.size:=((vT.below hb6).below hb7).lt
 clear y1 zR vT n6 n7 m7
 intro W2 ⟨y1,zR,vT,vM⟩
 obtain ⟨g9,hg9e⟩: ∃g,g=w7.heap.size:=⟨_,rfl⟩
 rw [←hg9e] at vM hg9 ⊢
 clear hg9e hb6 hb7 W1
 obtain ⟨a9,b9,c9,d9,z9,n9,m9⟩:=id vM
 obtain ⟨j0,j1,-⟩:=id z9
 go_upto_region 5 with fail
 refine wp_wld9 (fun WW=>Below w.heap.size w WW∧P2 100 WW w.heap.size (.slice none 0 0) (.slice none 0 0)∧PV 100 WW g8 T∧PV 100 WW g9 (grT T p 0)∧PV 100 WW W2.heap.size (grT T p 0)) ⟨below_trans y1 (below_alloc _ _),zR.below (below_alloc _ _),vT.below (below_alloc _ _),vM.below (below_alloc _ _),PV.made rfl n9 m9⟩ ?_
 have hg10:g9<W2.heap.size:=vM.lt
 clear y1 zR vT vM z9 n9 m9 j0 j1
 intro W3 ⟨y1,zR,vT,vM,vS⟩
 obtain ⟨g10,hg10e⟩: ∃g,g=W2.heap.size:=⟨_,rfl⟩
 rw [←hg10e] at vS hg10 ⊢
 clear hg10e W2
 go_wp2_with fail
 go_loopw [11] (fun s11 wr=> ∃i:Nat,s11=.int .i64 ((i+1:Nat):Int)∧i≤n∧Below w.heap.size w wr∧P2 100 wr w.heap.size (.slice none 0 0) (.slice none 0 0)∧PV 100 wr g8 T∧PV 100 wr g9 (grT T p i)∧PV 100 wr g10 (geS T p i)) (fun s11 _=>n+2-(intOf s11).toNat)
 case atStart=>exact ⟨0,rfl,by omega,y1,zR,vT,vM,vS⟩
 case round=>
 obtain ⟨i,rfl,hi,yr,zr,vt,vm,vs⟩:=hrel
 clear y1 zR vT vM vS
 obtain ⟨a9,b9,c9,d9,z9,n9,m9⟩:=id vm
 obtain ⟨H,hH⟩: ∃H,H=(grT T p i).2:=⟨_,rfl⟩
 rw [←hH] at z9 m9
 have HH:=hid hH
 obtain ⟨κ,hκ⟩: ∃κ,κ=cmpI (H:Int) ((1:Nat):Int):=⟨_,rfl⟩
 have CM1:=hid (fun b d w h k=>CM.out b9 d9 b d H w h k)
 rw [←hκ] at CM1
 have HK:=hid hκ
 clear hH hκ
 go_upto_region 6 with fail
 refine wp_region_grow 5 [28,29,30,31,32] [Fact.is (.pointer (some ⟨g9,1,none⟩)),Fact.is (.slice b9 (limbs H).length d9),Fact.li 1,Fact.is (.int .i64 κ),Fact.is (.bool (decide (0<κ)))] (by kernel_rfl) (by kernel_rfl) ⟨?o0,?o1,?o2,?o3,?o4,trivial⟩ ?after
 case o0=>(refine oQ rfl ?_;intro ρ w1 R hcon hfn hρ hb hp hR;have e9:ρ (.tmp 9)=.pointer (some ⟨g9,0,none⟩):=hρ.tmp 9 rfl;clear hρ hp;unfold OpRun;go_simp;exact hR _ _ (Below.refl _ _) rfl)
 case o1=>(refine oQ rfl ?_;intro ρ w1 R hcon hfn hρ hb hp hR;have e28:ρ (.tmp 28)=_:=hp 0 28 rfl rfl;obtain ⟨j0,j1,-⟩:=z9.below hb;clear hρ hp;unfold OpRun;go_simp;exact hR _ _ (Below.refl _ _) rfl)
 case o2=>(refine oQ rfl ?_;intro ρ w1 R hcon hfn hρ hb hp hR;clear hρ hp;unfold OpRun;go_simp;(refine (OF.out _).mono ?_;rintro e wn ⟨a8,rfl,n8,hbn⟩;exact ⟨_,rfl,hR _ _ hbn ⟨a8,_,rfl,n8⟩⟩))
 case o3=>(refine oQ rfl ?_;intro ρ w1 R hcon hfn hρ hb hp hR;have e29:ρ (.tmp 29)=_:=hp 1 29 rfl rfl;have f30:=hp 2 30 rfl rfl;obtain ⟨a8,c8,e30,n8⟩:=f30;clear hρ hp;unfold OpRun;go_simp;(refine (CM1.out _ _ _ (m9.below hb) n8).mono ?_;rintro e wn ⟨rfl,hbn⟩;exact ⟨_,rfl,hR _ _ hbn rfl⟩))
 case o4=>(refine oQ rfl ?_;intro ρ w1 R hcon hfn hρ hb hp hR;have e31:ρ (.tmp 31)=_:=hp 3 31 rfl rfl;clear hρ hp;unfold OpRun;go_simp;exact hR _ _ (Below.refl _ _) rfl)
 case after=>
  intro u wn hb hf
  have e32:u 32=_:=hf 4 32 (by omega) rfl
  clear hf
  simp only [putAll,Act.put,List.setIfInBounds_toArray,List.set_cons_zero,List.set_cons_succ,List.drop_succ_cons,List.drop_zero,List.drop_nil]
  rw [e32]
  have yr1:=below_trans yr hb
  have zr1:=zr.below hb
  have vt1:=vt.below hb
  have vm1:=vm.below hb
  have vs1:=vs.below hb
  have hc1:0<κ↔1<H:=by
   have h:=HK.out
   unfold cmpI at h
   split at h
   ·omega
   ·split at h<;>omega
  clear yr zr vt vm vs hb z9 n9 m9
  by_cases hk:0<κ
  ·have hin:i<n:=by
    have h1:=HN1.out
    have h2:=HH.out
    by_cases e:i=n
    ·exfalso;rw [←e] at h1;omega
    ·omega
   have TI1:=hid (TI.out i)
   have OV1:=hid (OV.out i (by omega))
   have PL1:=hid (PL.out i (by omega))
   rw [show ovP (tmP (grT T p i) T p) (i+1)=grT T p (i+1) from rfl] at OV1
   rw [show plP (geS T p i) (grT T p (i+1))=geS T p (i+1) from rfl] at PL1
   have hsl:((i+1:Nat):Int)=(i:Int)+1:=by omega
   have wI:IntKind.i64.wrap (((i+1:Nat):Int)+1)=((i+1+1:Nat):Int):=by rw [IntWalk.i64_in _ (by omega)];omega
   obtain ⟨s9,r9,z9,p9⟩:=vm1.pr
   obtain ⟨s8,r8,z8,p8⟩:=vt1.pr
   have P9:=hid p9
   have P8:=hid p8
   obtain ⟨I,hI⟩: ∃I:Int,I=((i+1:Nat):Int):=⟨_,rfl⟩
   rw [←hI] at OV1 wI ⊢
   clear p9 p8 hc1 TI OV PL CM1 hsl
   obtain ⟨j0,j1,f0,f1,-⟩:=id z9
   obtain ⟨i0,i1,-⟩:=id z8
   have HI:=hid hI
   clear hI
   go_upto_region 9 with (first
    |(go_at_call 120;(with_reducible refine (TI1.out _ _ _ P9.out P8.out).mono ?_);rintro en w4 ⟨v4,rfl,P4,hb4⟩;have zz4:=z9.below hb4;obtain ⟨jj0,jj1,ff0,ff1,-⟩:=id zz4)
    |(go_at_call 119;(with_reducible refine (OV1.out _ _ P4).mono ?_);rintro en w5 ⟨v5,rfl,⟨a5,b5,c5,d5,rfl,n5,m5⟩,hb5⟩;have zz5:=zz4.below hb5;obtain ⟨k0,k1,g0,g1,-⟩:=id zz5))
   have yr5:=below_trans (below_trans yr1 hb4) hb5
   have zr5:=(zr1.below hb4).below hb5
   have vt5:=(vt1.below hb4).below hb5
   have vm5:=(vm1.below hb4).below hb5
   have vs5:=(vs1.below hb4).below hb5
   obtain ⟨a9,b9,c9,d9,z95,-,-⟩:=id vm5
   refine wp_wld9 (fun WW=>Below w.heap.size w WW∧P2 100 WW w.heap.size (.slice none 0 0) (.slice none 0 0)∧PV 100 WW g8 T∧PV 100 WW g9 (grT T p (i+1))∧PV 100 WW g10 (geS T p i)) ⟨below_put2 yr5 (by omega) _ _,(zr5.far _ _ (by show w.heap.size≠g9;omega)).far _ _ (by show w.heap.size≠g9;omega),vt5.far z95 (by omega) sl_no sl_no _ _,vm5.put n5 m5,vs5.far z95 (by omega) sl_no sl_no _ _⟩ ?_
   clear yr5 zr5 vt5 vm5 vs5 z95 yr1 zr1 vt1 vm1 vs1 hb4 hb5 n5 m5 P4 zz4 zz5 z9 z8 P9 P8 j0 j1 f0 f1 i0 i1 jj0 jj1 ff0 ff1 k0 k1 g0 g1
   intro W6 ⟨yr1,zr1,vt1,vm1,vs1⟩
   obtain ⟨s9,r9,z9,p9⟩:=vm1.pr
   obtain ⟨s8,r8,z10,p10⟩:=vs1.pr
   have P9:=hid p9
   have P10:=hid p10
   clear p9 p10
   obtain ⟨j0,j1,f0,f1,-⟩:=id z9
   obtain ⟨i0,i1,-⟩:=id z10
   go_upto_region 7 with (go_at_call 121;(with_reducible refine (PL1.out _ _ _ P10.out P9.out).mono ?_);rintro en w4 ⟨v4,rfl,⟨a5,b5,c5,d5,rfl,n5,m5⟩,hb4⟩;have zz4:=z10.below hb4;obtain ⟨jj0,jj1,ff0,ff1,-⟩:=id zz4)
   have yr5:=below_trans yr1 hb4
   have zr5:=zr1.below hb4
   have vt5:=vt1.below hb4
   have vm5:=vm1.below hb4
   have vs5:=vs1.below hb4
   obtain ⟨a9,b9,c9,d9,z95,-,-⟩:=id vs5
   refine wp_wld9 (fun WW=>Below w.heap.size w WW∧P2 100 WW w.heap.size (.slice none 0 0) (.slice none 0 0)∧PV 100 WW g8 T∧PV 100 WW g9 (grT T p (i+1))∧PV 100 WW g10 (geS T p (i+1))) ⟨below_put2 yr5 (by omega) _ _,(zr5.far _ _ (by show w.heap.size≠g10;omega)).far _ _ (by show w.heap.size≠g10;omega),vt5.far z95 (by omega) sl_no sl_no _ _,vm5.far z95 (by omega) sl_no sl_no _ _,vs5.put n5 m5⟩ ?_
   clear yr5 zr5 vt5 vm5 vs5 z95 yr1 zr1 vt1 vm1 vs1 hb4 n5 m5 zz4 z9 z10 P9 P10 j0 j1 f0 f1 i0 i1 jj0 jj1 ff0 ff1
   intro W7 ⟨yr1,zr1,vt1,vm1,vs1⟩
   go_wp2_with fail
   go_roundw
   case rel=>exact ⟨i+1,rfl,by omega,yr1,zr1,vt1,vm1,vs1⟩
   case measure=>have h9:=HI.out;simp [intOf];omega
  ·have hin:i=n:=by
    by_cases e:i<n
    ·exfalso
     have h1:=HN2.out i e
     have h2:=HH.out
     omega
    ·omega
   subst hin
   obtain ⟨S9,hS9⟩: ∃S,S=geS T p i:=⟨_,rfl⟩
   rw [←hS9] at vs1 PL4 HXX
   obtain ⟨l,h⟩:=S9
   clear hS9 TI OV PL CM CM1 HN1 HN2 HH HK hc1 vt1 vm1
   obtain ⟨a10,b10,c10,d10,z10,n10,m10⟩:=id vs1
   go_upto_region 10 with fail
   refine wp_region_grow 5 [44,45,46,47,48] [Fact.is (.pointer (some ⟨g10,1,none⟩)),Fact.is (.slice b10 (limbs h).length d10),Fact.li 4,Fact.li (h+4),Fact.is (.pointer (some ⟨g10,1,none⟩))] (by kernel_rfl) (by kernel_rfl) ⟨?o0,?o1,?o2,?o3,?o4,trivial⟩ ?after
   case o0=>(refine oQ rfl ?_;intro ρ w1 R hcon hfn hρ hb hp hR;have e10:ρ (.tmp 10)=.pointer (some ⟨g10,0,none⟩):=hρ.tmp 10 rfl;clear hρ hp;unfold OpRun;go_simp;exact hR _ _ (Below.refl _ _) rfl)
   case o1=>(refine oQ rfl ?_;intro ρ w1 R hcon hfn hρ hb hp hR;have e44:ρ (.tmp 44)=_:=hp 0 44 rfl rfl;obtain ⟨i0,i1,-⟩:=z10.below hb;clear hρ hp;unfold OpRun;go_simp;exact hR _ _ (Below.refl _ _) rfl)
   case o2=>(refine oQ rfl ?_;intro ρ w1 R hcon hfn hρ hb hp hR;clear hρ hp;unfold OpRun;go_simp;(refine (OF4.out _).mono ?_;rintro e wn ⟨a8,rfl,n8,hbn⟩;exact ⟨_,rfl,hR _ _ hbn ⟨a8,_,rfl,n8⟩⟩))
   case o3=>(refine oQ rfl ?_;intro ρ w1 R hcon hfn hρ hb hp hR;have e45:ρ (.tmp 45)=_:=hp 1 45 rfl rfl;have f46:=hp 2 46 rfl rfl;obtain ⟨a8,c8,e46,n8⟩:=f46;clear hρ hp;unfold OpRun;go_simp;(skip;refine (PL4.out _ _ _ _ _ (m10.below hb) n8).mono ?_;rintro e wn ⟨a7,rfl,n7,hbn⟩;exact ⟨_,rfl,hR _ _ hbn ⟨a7,_,rfl,n7⟩⟩))
   case o4=>(refine oQ rfl ?_;intro ρ w1 R hcon hfn hρ hb hp hR;have e10:ρ (.tmp 10)=.pointer (some ⟨g10,0,none⟩):=hρ.tmp 10 rfl;clear hρ hp;unfold OpRun;go_simp;exact hR _ _ (Below.refl _ _) rfl)
   case after=>
    intro u wn hb hf
    have f47:=hf 3 47 (by omega) rfl
    have e48:u 48=_:=hf 4 48 (by omega) rfl
    clear hf
    simp only [putAll,Act.put,List.setIfInBounds_toArray,List.set_cons_zero,List.set_cons_succ,List.drop_succ_cons,List.drop_zero,List.drop_nil]
    rw [e48]
    obtain ⟨a47,c47,e47,n47⟩:=f47
    rw [e47]
    have yr2:=below_trans yr1 hb
    have zr2:=zr1.below hb
    have zz:=z10.below hb
    have nn:=n10.below hb
    obtain ⟨i0,i1,f0,f1,-⟩:=id zz
    clear yr1 zr1 vs1 z10 n10 m10 hb e47
    go_upto_region 11 with fail
    refine wp_wld9 (fun WW=>Below w.heap.size w WW∧P2 100 WW w.heap.size (.slice none 0 0) (.slice none 0 0)∧PV 100 WW g10 (sqP X p 0)) ⟨yr2.setCell (p:=⟨g10,1,none⟩) (by show w.heap.size≤g10;omega) _,zr2.far _ _ (by show w.heap.size≠g10;omega),by rw [show sqP X p 0=(l,h+4) from HXX.out];exact PV.put1 zz sl_no nn n47⟩ ?_
    clear yr2 zr2 zz nn i0 i1 f0 f1 n47
    intro W8 ⟨y1,zR,vS⟩
    go_wp2_with fail
    go_loopw [50] (fun s50 wr=> ∃j:Nat,s50=.int .i64 (j:Int)∧j≤s∧Below w.heap.size w wr∧P2 100 wr w.heap.size (.slice none 0 0) (.slice none 0 0)∧PV 100 wr g10 (sqP X p j)) (fun s50 _=>s-(intOf s50).toNat)
    case atStart=>exact ⟨0,rfl,by omega,y1,zR,vS⟩
    case round=>
    obtain ⟨j,rfl,hj,yr,zr,vs⟩:=hrel
    clear y1 zR vS
    by_cases hjs:j<s
    ·have g1:(j:Int)<(s:Int):=by omega
     have SQ1:=hid (SQ.out j (by omega))
     rw [show tmP (sqP X p j) (sqP X p j) p=sqP X p (j+1) from rfl] at SQ1
     have wJ:IntKind.i64.wrap ((j:Int)+1)=((j+1:Nat):Int):=by rw [IntWalk.i64_in _ (by omega)];omega
     obtain ⟨s8,r8,z10,p10⟩:=vs.pr
     have P10:=hid p10
     clear p10 SQ
     obtain ⟨j0,j1,f0,f1,-⟩:=id z10
     go_upto_region 13 with fail
     go_upto_region 14 with (go_at_call 120;(with_reducible refine (SQ1.out _ _ _ P10.out P10.out).mono ?_);rintro en w4 ⟨v4,rfl,⟨a5,b5,c5,d5,rfl,n5,m5⟩,hb4⟩;have zz4:=z10.below hb4;obtain ⟨jj0,jj1,ff0,ff1,-⟩:=id zz4)
     have yr5:=below_trans yr hb4
     have zr5:=zr.below hb4
     have vs5:=vs.below hb4
     refine wp_wld9 (fun WW=>Below w.heap.size w WW∧P2 100 WW w.heap.size (.slice none 0 0) (.slice none 0 0)∧PV 100 WW g10 (sqP X p (j+1))) ⟨below_put2 yr5 (by omega) _ _,(zr5.far _ _ (by show w.heap.size≠g10;omega)).far _ _ (by show w.heap.size≠g10;omega),vs5.put n5 m5⟩ ?_
     clear yr5 zr5 vs5 yr zr vs hb4 n5 m5 zz4 z10 P10 j0 j1 f0 f1 jj0 jj1 ff0 ff1
     intro W9 ⟨yr1,zr1,vs1⟩
     go_wp2_with fail
     go_roundw
     case rel=>exact ⟨j+1,rfl,by omega,yr1,zr1,vs1⟩
     case measure=>simp [intOf];omega
    ·have hje:j=s:=by omega
     subst hje
     obtain ⟨a10,b10,c10,d10,z10,n10,m10⟩:=id vs
     obtain ⟨i0,i1,-⟩:=id z10
     obtain ⟨k0,k1,f0,f1,-⟩:=id zr
     go_wp2_with fail
     refine bodyPost_ret (by simp [results,Tryz.results92,go_sem,k0,k1];try rfl) rfl ?_
     exact ⟨_,rfl,⟨_,_,_,_,rfl,n10.put2 zr sl_no sl_no _ _,m10.put2 zr sl_no sl_no _ _⟩,below_put2 yr (by omega) _ _⟩
end Go.Proofs.YtehhegbkahnhgaaGreatDoor
namespace Go.Ulp
open Go.RowKit
def Fact.d0 (B:Nat) (t:TypeId):Fact:=⟨fun v w=> ∃g,v=.pointer (some ⟨g,0,none⟩)∧B≤g∧QL t w g false (.slice none 0 0) 0,fun _ _ _ h hb=>by
 obtain ⟨g,h1,h2,h3⟩:=h;exact ⟨g,h1,h2,h3.below hb⟩⟩
theorem DV.far3 {t t':TypeId} {w:World} {g g':Nat} {D:Dy} {n:Bool} {v:Value} {k:Int} (h:DV t w g D) (z:QL t' w g' n v k) (hne:g≠g') (hv: ∀x,v≠ .int .u32 x) (u0 u1 u2:Value):
 DV t (((w.setCell ⟨g',0,none⟩ u0).setCell ⟨g',1,none⟩ u1).setCell ⟨g',2,none⟩ u2) g D:=by
 obtain ⟨a,c,h1,h2⟩:=h
 exact ⟨a,c,h1.far3 hne _ _ _,h2.set3 z hv _ _ _⟩
end Go.Ulp
namespace Go.Proofs.YtehhegbkahnhgaaGreatDoor
open Go.RowKit Go.Ulp
set_option maxHeartbeats 4000000
set_option maxRecDepth 100000
end Go.Proofs.YtehhegbkahnhgaaGreatDoor
namespace Go.Ulp
open Go.RowKit
def ebP (x:PP) (p:Nat) (neg:Bool):PP:=if neg=true then (2^p*2^p/x.2,2^p*2^p/x.1+1) else x
theorem growP_len (m B:Nat) (e:Int) (p n:Nat) (hm:m<2^B) (hp:20≤p) (hn:n≤p) (hs:sN B e≤26):(growP m B e p n).1≤2^(p+201326592)∧(growP m B e p n).2≤2^(p+201326592):=by
 have htop:=tS_top m B e p hm (by omega)
 have hT01:(tS m B e p).1≤(tS m B e p).2:=(fx_wd _ _ _).1
 have hT1:(tS m B e p).2≤2^(p-1):=Nat.le_trans htop (Nat.pow_le_pow_right (by omega) (by omega))
 have a:(geS (tS m B e p) p n).2≤2^(p+1):=Nat.le_trans (Nat.le_add_right _ _) (grS_top (by omega) hT1 n hn)
 have b:2^2≤2^(p+1):=Nat.pow_le_pow_right (by omega) (by omega)
 refine sq_len (up4 (geS (tS m B e p) p n)) p (sN B e) ?_ (Nat.le_trans (grS_le p hT01 n) (Nat.le_add_right _ _)) hs
 show (geS (tS m B e p) p n).2+4≤_
 rw [Nat.pow_succ];omega
end Go.Ulp
namespace Go.Proofs.YtehhegbkahnhgaaGreatDoor
open Go.RowKit Go.Ulp
set_option maxHeartbeats 4000000
set_option maxRecDepth 100000
theorem expBounds_any (m:Nat) (e:Int) (ng:Bool) (p:Nat) (a:Option Addr) (c:Nat) (w:World) (h0:Ns .u32 w a c (limbs m)) (l1:(limbs m).length≤100) (he: -100000≤e∧e≤100000) (hp0:20≤p) (hp:p≤34359738368) (hs:sN (bl m) e≤26) (hT:Tab 0 w):
 Calls Tryz.prog 50 #[.agg #[.bool ng,.slice a (limbs m).length c,.int .i64 e],.int .i64 (p:Int)] w fun en w'=> ∃n,n≤p∧(grT (tS m (bl m) e p) p n).2≤1∧RetVD2 w (nrm ((ebP (growP m (bl m) e p n) p ng).1:Int) (-(p:Int))) (nrm ((ebP (growP m (bl m) e p n) p ng).2:Int) (-(p:Int))) en w':=by
 have GR:=hid (fun w h=>grow_any m e p a c w h l1 he hp0 hp hs)
 have GL:=hid (fun n hn=>growP_len m (bl m) e p n (lt_bl m) hp0 hn hs)
 have GW:=hid (fun n=>growP_low m (bl m) e p n)
 have GE:=hid (fun n=>growP_le m (bl m) e p n)
 obtain ⟨GP,hGP⟩: ∃G,G=fun n=>growP m (bl m) e p n:=⟨_,rfl⟩
 obtain ⟨OK,hOK⟩: ∃O,O=fun n=>(grT (tS m (bl m) e p) p n).2≤1:=⟨_,rfl⟩
 simp only [show ∀n,growP m (bl m) e p n=GP n from fun n=>by rw [hGP]] at GR GL GW GE ⊢
 simp only [show ∀n,((grT (tS m (bl m) e p) p n).2≤1)=OK n from fun n=>by rw [hOK]] at GR ⊢
 clear hGP hOK
 have H0:=hid h0
 have HT:=hid hT
 have lo0:(limbs (2^p*2^p)).length≤4294967296:=len_le (k:=p+p) (by rw [Nat.pow_add];exact Nat.le_refl _) (by omega)
 obtain ⟨kk2,hkk2⟩: ∃k,k=p+p:=⟨_,rfl⟩
 have LE:=hid (show ∀a c w,Ns .u32 w a c (limbs 1)→Calls Tryz.prog 69 #[.slice a (limbs 1).length c,.int .i64 (kk2:Int)] w fun e w'=>RetN w (2^p*2^p) e w' from fun a c w h=>by
  have:=left_any a c 1 kk2 w h (by decide) (by omega) (by decide)
  rwa [Nat.one_mul,show 2^kk2=2^p*2^p by rw [hkk2,Nat.pow_add]] at this)
 have w2:IntKind.i64.wrap (2*(p:Int))=(kk2:Int):=by rw [IntWalk.i64_in _ (by omega)];omega
 clear hkk2
 have OF:=hid (show ∀w,Calls Tryz.prog 66 #[.int .u64 1] w fun e w'=>RetN w 1 e w' from fun w=>natOf_any 1 (by omega) w)
 obtain ⟨W0,hW0⟩: ∃W:World,W=((w.alloc (.cells #[.bool ng,.slice a (limbs m).length c,.int .i64 e] 38)).alloc (.cells #[.bool false,.slice none 0 0,.int .i64 0] 38)).alloc (.cells #[.bool false,.slice none 0 0,.int .i64 0] 38):=⟨_,rfl⟩
 have yb0:Below w.heap.size w W0:=by rw [hW0];(repeat' first|(with_reducible first|assumption|apply bR|apply bA|apply bN|apply bD|apply bL|apply bS)|refine bT ?_ (by assumption)|go_size)
 have zA:QL 38 W0 w.heap.size ng (.slice a (limbs m).length c) e:=by rw [hW0];exact ((QL.made rfl).alloc _).alloc _
 have zR:QL 38 W0 (w.heap.size+1) false (.slice none 0 0) 0:=by rw [hW0];exact (QL.made (by simp)).alloc _
 have zS:QL 38 W0 (w.heap.size+1+1) false (.slice none 0 0) 0:=by rw [hW0];exact QL.made (by simp)
 clear h0 hT he l1 hs
 go_enter Tryz.func50,Tryz.ntmps50
 go_upto_region 1 with fail
 rw [←hW0]
 clear hW0
 obtain ⟨⟨j0,j1,-⟩,j2,-⟩:=id zA
 go_upto_region 2 with (go_at_call 92;(with_reducible refine (GR.out _ (H0.out.below yb0)).mono ?_);rintro en w1 ⟨n,hn,hok,v1,rfl,⟨a1,b1,c1,d1,rfl,n1,m1⟩,hb1⟩)
 refine wp_wld9 (fun WW=>Below w.heap.size w WW∧QL 38 WW w.heap.size ng (.slice a (limbs m).length c) e∧QL 38 WW (w.heap.size+1) false (.slice none 0 0) 0∧QL 38 WW (w.heap.size+1+1) false (.slice none 0 0) 0∧PV 100 WW w1.heap.size (GP n)) ⟨below_trans (below_trans yb0 hb1) (below_alloc _ _),(zA.below hb1).alloc _,(zR.below hb1).alloc _,(zS.below hb1).alloc _,PV.made rfl n1 m1⟩ ?_
 have hg:w.heap.size+2<w1.heap.size:=by have:=(zS.below hb1).lt;omega
 obtain ⟨g6,hg6⟩: ∃g,g=w1.heap.size:=⟨_,rfl⟩
 rw [←hg6] at hg ⊢
 clear zA zR zS yb0 hb1 n1 m1 j0 j1 j2 hg6
 intro W1 ⟨y1,zA,zR,zS,vX⟩
 have gl:=GL.out n hn
 have gw:=GW.out n
 have ge:=GE.out n
 obtain ⟨x,hx⟩: ∃x,x=GP n:=⟨_,rfl⟩
 rw [←hx] at vX gl gw ge
 have HX:=hid hx
 clear hx
 cases ng
 ·have DY:=hid (fun v w hv t=>dyads_any x p v w hv (len_le gl.1 (by omega)) (len_le gl.2 (by omega)) (by omega) t)
  clear gl gw ge GE LE OF lo0 w2 GL GW GR
  obtain ⟨s6,r6,z6,p6⟩:=vX.pr
  have P6:=hid p6
  clear p6
  obtain ⟨i0,i1,-⟩:=id z6
  obtain ⟨⟨j0,j1,-⟩,j2,-⟩:=id zA
  obtain ⟨D,hD⟩: ∃D,D=nrm (x.1:Int) (-(p:Int)):=⟨_,rfl⟩
  obtain ⟨E,hE⟩: ∃D,D=nrm (x.2:Int) (-(p:Int)):=⟨_,rfl⟩
  rw [←hD,←hE] at DY
  have HD:=hid hD
  have HE:=hid hE
  clear hD hE
  go_upto_region 3 with fail
  go_wp2_with (go_at_call 93;(with_reducible refine (DY.out _ _ P6.out (HT.out.below y1)).mono ?_);rintro en w3 ⟨v3,v4,rfl,hv3,hv4,HB⟩;obtain ⟨a3,c3,rfl,hN3⟩:=hv3;obtain ⟨a4,c4,rfl,hN4⟩:=hv4;have zR2:=zR.below HB;have zS2:=zS.below HB;have yb2:=below_trans y1 HB;obtain ⟨⟨k0,k1,f0,f1,hs2⟩,k2,f2⟩:=id zR2;obtain ⟨⟨m0,m1,g0,g1,hs3⟩,m2,g2⟩:=id zS2)
  refine bodyPost_ret (by simp [results,Tryz.results50,go_sem,k0,k1,k2,m0,m1,m2];try rfl) rfl ?_
  have zS3:=zS2.far3 (b:=w.heap.size+1) (by omega) (.bool (decide (D.1<0))) (.slice a3 (limbs D.1.natAbs).length c3) (.int .i64 D.2)
  refine ⟨n,hn,hok,?_⟩
  rw [show ebP (GP n) p false=x from HX.out.symm,←HD.out,←HE.out]
  exact ⟨_,_,rfl,⟨a3,c3,rfl,(hN3.set3 zR2 (by intro x h;cases h) _ _ _).set3 zS3 (by intro x h;cases h) _ _ _⟩,⟨a4,c4,rfl,(hN4.set3 zR2 (by intro x h;cases h) _ _ _).set3 zS3 (by intro x h;cases h) _ _ _⟩,Go.Ulp.Below.put3 (Go.Ulp.Below.put3 yb2 (by omega) _ _ _) (by omega) _ _ _⟩
 ·obtain ⟨x1,x2⟩:=x
  simp only at gl gw ge
  have hpp:=Nat.two_pow_pos p
  have lx1:(limbs x1).length≤4294967296:=len_le gl.1 (by omega)
  have lx2:(limbs x2).length≤4294967296:=len_le gl.2 (by omega)
  have O1:=hid (fun a b c d w h0 h1=>over_any a b c d (2^p*2^p) x1 w h0 h1 lo0 (by omega))
  have O2:=hid (fun a b c d w h0 h1=>over_any a b c d (2^p*2^p) x2 w h0 h1 lo0 (by omega))
  have hq:2^p*2^p/x1≤2^p:=Nat.div_le_of_le_mul (Nat.mul_le_mul_right _ gw)
  have lq1:(limbs (2^p*2^p/x1)).length≤4294967296:=len_le hq (by omega)
  have lq2:(limbs (2^p*2^p/x2)).length≤4294967296:=len_le (Nat.div_le_of_le_mul (Nat.mul_le_mul_right _ (Nat.le_trans gw ge))) (by omega)
  have lq3:(limbs (2^p*2^p/x1+1)).length≤4294967296:=len_le (k:=p+1) (by rw [Nat.pow_succ];omega) (by omega)
  have HX2:=hid (show ebP (GP n) p true=(2^p*2^p/x2,2^p*2^p/x1+1) by rw [←HX.out];rfl)
  obtain ⟨q1,hq1⟩: ∃q,q=2^p*2^p/x1:=⟨_,rfl⟩
  obtain ⟨q2,hq2⟩: ∃q,q=2^p*2^p/x2:=⟨_,rfl⟩
  obtain ⟨r1,hr1⟩: ∃q,q=2^p*2^p%x1:=⟨_,rfl⟩
  obtain ⟨r2,hr2⟩: ∃q,q=2^p*2^p%x2:=⟨_,rfl⟩
  rw [←hq1] at O1 lq1 lq3 HX2
  rw [←hr1] at O1
  rw [←hq2] at O2 lq2 HX2
  rw [←hr2] at O2
  clear hq hq1 hq2 hr1 hr2 HX lx1 lx2 gl gw ge hpp lo0
  have PL:=hid (fun a b c d w h0 h1=>plus_any a b c d q1 1 w h0 h1 lq1 (by decide))
  have DY:=hid (fun v w hv t=>dyads_any (q2,q1+1) p v w hv lq2 lq3 (by omega) t)
  simp only at DY
  obtain ⟨Q,hQ⟩: ∃q,q=2^p*2^p:=⟨_,rfl⟩
  rw [←hQ] at O1 O2 LE
  obtain ⟨D,hD⟩: ∃D,D=nrm (q2:Int) (-(p:Int)):=⟨_,rfl⟩
  obtain ⟨E,hE⟩: ∃D,D=nrm ((q1+1:Nat):Int) (-(p:Int)):=⟨_,rfl⟩
  rw [←hD,←hE] at DY
  have HD:=hid hD
  have HE:=hid hE
  clear hD hE hQ lq1 lq2 lq3 GW GE GL GR
  obtain ⟨a6,b6,c6,d6,z6,n6,m6⟩:=id vX
  simp only at z6 n6 m6
  obtain ⟨i0,i1,-⟩:=id z6
  obtain ⟨⟨j0,j1,-⟩,j2,-⟩:=id zA
  go_upto_region 5 with (first
   |(go_at_call 66;(with_reducible refine (OF.out _).mono ?_);rintro en w3 ⟨b3,rfl,hN3,hb3⟩)
   |(go_at_call 69;(with_reducible refine (LE.out _ _ _ hN3).mono ?_);rintro en w4 ⟨b4,rfl,hN4,hb4⟩))
  refine wp_wld9 (fun WW=>Below w.heap.size w WW∧QL 38 WW (w.heap.size+1) false (.slice none 0 0) 0∧QL 38 WW (w.heap.size+1+1) false (.slice none 0 0) 0∧P2 100 WW g6 (.slice a6 (limbs x1).length c6) (.slice b6 (limbs x2).length d6)∧Ns .u32 WW a6 c6 (limbs x1)∧Ns .u32 WW b6 d6 (limbs x2)∧Ns .u32 WW b4 (limbs Q).length (limbs Q)) ⟨below_trans (below_trans y1 hb3) hb4,(zR.below hb3).below hb4,(zS.below hb3).below hb4,(z6.below hb3).below hb4,(n6.below hb3).below hb4,(m6.below hb3).below hb4,hN4⟩ ?_
  clear zA zR zS y1 vX z6 n6 m6 i0 i1 j0 j1 j2 hN3 hN4 hb3 hb4
  intro W2 ⟨y1,zR,zS,z6,n6,m6,n7⟩
  obtain ⟨i0,i1,-⟩:=id z6
  go_upto_region 6 with (go_at_call 94;(with_reducible refine (O2.out _ _ _ _ _ n7 m6).mono ?_);rintro en w5 ⟨a8,c8,b9,d9,rfl,n8,n9,hb5⟩)
  refine wp_wld9 (fun WW=>Below w.heap.size w WW∧QL 38 WW (w.heap.size+1) false (.slice none 0 0) 0∧QL 38 WW (w.heap.size+1+1) false (.slice none 0 0) 0∧P2 100 WW g6 (.slice a6 (limbs x1).length c6) (.slice b6 (limbs x2).length d6)∧Ns .u32 WW a6 c6 (limbs x1)∧Ns .u32 WW a8 c8 (limbs q2)∧Ns .u32 WW b4 (limbs Q).length (limbs Q)) ⟨below_trans y1 hb5,zR.below hb5,zS.below hb5,z6.below hb5,n6.below hb5,n8,n7.below hb5⟩ ?_
  clear zR zS y1 z6 n6 m6 i0 i1 n7 n8 n9 hb5
  intro W3 ⟨y1,zR,zS,z6,n6,n8,n7⟩
  obtain ⟨i0,i1,-⟩:=id z6
  go_upto_region 7 with (go_at_call 94;(with_reducible refine (O1.out _ _ _ _ _ n7 n6).mono ?_);rintro en w5 ⟨a10,c10,b11,d11,rfl,n10,n11,hb5⟩)
  refine wp_wld9 (fun WW=>Below w.heap.size w WW∧QL 38 WW (w.heap.size+1) false (.slice none 0 0) 0∧QL 38 WW (w.heap.size+1+1) false (.slice none 0 0) 0∧Ns .u32 WW a8 c8 (limbs q2)∧Ns .u32 WW a10 c10 (limbs q1)) ⟨below_trans y1 hb5,zR.below hb5,zS.below hb5,n8.below hb5,n10⟩ ?_
  clear zR zS y1 z6 n6 i0 i1 n7 n8 n10 n11 hb5
  intro W4 ⟨y1,zR,zS,n8,n10⟩
  go_wp2_with (first
   |(go_at_call 66;(with_reducible refine (OF.out _).mono ?_);rintro en w3 ⟨b3,rfl,hN3,hb3⟩)
   |(go_at_call 70;(with_reducible refine (PL.out _ _ _ _ _ (n10.below hb3) hN3).mono ?_);rintro en w4 ⟨b12,rfl,hN4,hb4⟩;have hP:PR w4 (q2,q1+1) (.agg #[.slice a8 (limbs q2).length c8,.slice b12 (limbs (q1+1)).length (limbs (q1+1)).length]):=⟨a8,b12,c8,_,rfl,(n8.below hb3).below hb4,hN4⟩)
   |(go_at_call 93;(with_reducible refine (DY.out _ _ hP (((HT.out.below y1).below hb3).below hb4)).mono ?_);rintro en w5 ⟨v3,v4,rfl,hv3,hv4,HB⟩;obtain ⟨a3,c3,rfl,hN5⟩:=hv3;obtain ⟨a4,c4,rfl,hN6⟩:=hv4;have zR2:=((zR.below hb3).below hb4).below HB;have zS2:=((zS.below hb3).below hb4).below HB;have yb2:=below_trans (below_trans (below_trans y1 hb3) hb4) HB;obtain ⟨⟨k0,k1,f0,f1,hs2⟩,k2,f2⟩:=id zR2;obtain ⟨⟨m0,m1,g0,g1,hs3⟩,m2,g2⟩:=id zS2))
  refine bodyPost_ret (by simp [results,Tryz.results50,go_sem,k0,k1,k2,m0,m1,m2];try rfl) rfl ?_
  have zS3:=zS2.far3 (b:=w.heap.size+1) (by omega) (.bool (decide (D.1<0))) (.slice a3 (limbs D.1.natAbs).length c3) (.int .i64 D.2)
  refine ⟨n,hn,hok,?_⟩
  rw [HX2.out,←HD.out,←HE.out]
  exact ⟨_,_,rfl,⟨a3,c3,rfl,(hN5.set3 zR2 (by intro x h;cases h) _ _ _).set3 zS3 (by intro x h;cases h) _ _ _⟩,⟨a4,c4,rfl,(hN6.set3 zR2 (by intro x h;cases h) _ _ _).set3 zS3 (by intro x h;cases h) _ _ _⟩,Go.Ulp.Below.put3 (Go.Ulp.Below.put3 yb2 (by omega) _ _ _) (by omega) _ _ _⟩
end Go.Proofs.YtehhegbkahnhgaaGreatDoor
