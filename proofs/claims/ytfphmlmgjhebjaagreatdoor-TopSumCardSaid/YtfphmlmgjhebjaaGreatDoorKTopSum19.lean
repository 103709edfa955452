/- TopSum: what the proof leans on, part 19 (Sy5 Tx7 Tx9 Tx11 Tx12 Sy6 Sy7 Sy8 Sy9 Hx0). -/
import Derived.Laws.Runes
import Derived.Test.YtfphmlmgjhebjaaGreatDoorKTopSum1
import Derived.Test.YtfphmlmgjhebjaaGreatDoorKTopSum13
import Derived.Test.YtfphmlmgjhebjaaGreatDoorKTopSum16
import Derived.Test.YtfphmlmgjhebjaaGreatDoorKTopSum17
import Derived.Test.YtfphmlmgjhebjaaGreatDoorKTopSum18
set_option linter.unusedVariables false
set_option linter.unusedSimpArgs false
namespace Go.Ulp
open Go.RowKit
def shX (D:Dy) (E f k:Nat) (pd:Int):Int:=pd-k+(((decD (shZ D E f k pd)).length-(stp (decD (shZ D E f k pd))).length:Nat):Int)
def RetSh (D:Dy) (E f:Nat) (pd:Int) (w:World) (e:Ending) (w':World):Prop:=
 ∃k:Nat,(∀j,j<k→shS D E f j pd=false)∧shS D E f k pd=true∧e=.returned (.tuple #[.string (bsOf (stp (decD (shZ D E f k pd)))),.int .i64 (shX D E f k pd),.int .i64 0])∧Below w.heap.size w w'
theorem rtN_dn (neg:Bool) (a b:Nat):rtN neg a b 3=a/b:=by
 unfold rtN
 rw [if_neg]
 intro h
 have h2:=h.2
 revert h2
 unfold upN
 cases neg<;>simp
theorem shL_sci (D:Dy) (k:Nat) (pd:Int):sciQ false (dA D) (dB D) k pd 3=shL D k pd:=by
 unfold sciQ shL shA shB;exact rtN_dn _ _ _
theorem shL_bd (D:Dy) (k:Nat) (pd:Int) (hp:IsDec (dA D) (dB D) pd):10^k≤shL D k pd∧shL D k pd<10^(k+1):=by
 have h:=(sciQ_bd false (dA D) (dB D) k pd 3 (dB_pos D) hp).1
 rw [shL_sci] at h
 refine ⟨h,?_⟩
 have h2:=hp.2
 rw [lessT_tens (dA D) (dB D) (pd+1) (k+1),show (((k+1:Nat):Int)-(pd+1))=(k:Int)-pd by omega] at h2
 have h2:=of_decide_eq_true h2
 unfold shL
 rw [Nat.div_lt_iff_lt_mul (shB_pos D k pd)]
 exact h2
theorem shL_sciD (D:Dy) (k:Nat) (pd:Int) (hp:IsDec (dA D) (dB D) pd):sciD (sciQ false (dA D) (dB D) k pd 3) k=decD (shL D k pd):=by
 rw [shL_sci];unfold sciD
 have:=(shL_bd D k pd hp).2
 rw [if_neg (by omega)]
theorem val_parts (E f:Nat) (hf:f<4503599627370496):nrm (4*lmM E f:Nat) (lmX E)=rkD ((E*4503599627370496+f:Nat):Int)∧IsVal (rkD ((E*4503599627370496+f:Nat):Int)) E f:=by
 obtain ⟨r,hr⟩: ∃r,r=E*4503599627370496+f:=⟨_,rfl⟩
 have h1:=(rvi_lm E f hf).1
 rw [←hr] at h1 ⊢
 constructor
 ·unfold rkD
  rw [rvs_nat,h1]
  have s1:=nrm_scale ((4*lmM E f:Nat):Int) ((lmH E:Int)-1076-(lmH E:Int)) (lmH E)
  rw [show (lmH E:Int)-1076-(lmH E:Int)+(lmH E:Int)=lmX E by unfold lmX;omega,show (lmH E:Int)-1076-(lmH E:Int)= -1076 by omega] at s1
  have s2:=nrm_scale ((lmM E f*2^lmH E:Nat):Int) (-1076) 2
  rw [show (-1076:Int)+((2:Nat):Int)= -1074 by omega] at s2
  rw [←s1,←s2]
  congr 1
  rw [pw_nat,pw_nat,←Int.natCast_mul,←Int.natCast_mul]
  congr 1
  rw [Nat.mul_comm _ (2^2),←Nat.mul_assoc]
 ·have h2:=nrm_ratio (X:=rvs (r:Int)) (n:=1074) (D:=rkD (r:Int)) rfl
  unfold IsVal
  rw [rvs_nat,Int.natAbs_natCast,h1] at h2
  exact h2.symm
end Go.Ulp
namespace Go.Proofs.YtfphmlmgjhebjaaGreatDoor
open Go.RowKit Go.Ulp
set_option maxHeartbeats 4000000
set_option maxRecDepth 100000
theorem shDigits_any (x:Int) (h0:0≤x) (h1:x<18446744073709551616) (hv:hasVal x=true) (hc:classOf x≠1) (E f:Nat) (hE:expOf x=(E:Int)) (hf:fracOf x=(f:Int)) (hr:1≤E*4503599627370496+f) (hE2:E<2047) (pd:Int)
 (hp:IsDec (dA (rkD ((E*4503599627370496+f:Nat):Int))) (dB (rkD ((E*4503599627370496+f:Nat):Int))) pd) (hpb: -330≤pd∧pd≤320) (w:World) (hT:Tab 1 w) (hT10:Tab10 w):
 Calls Tryz.prog 90 #[.int .u64 x] w (RetSh (rkD ((E*4503599627370496+f:Nat):Int)) E f pd w):=by
 have hfb:=fracOf_bd x
 have hfb2:f<4503599627370496:=by omega
 obtain ⟨vp1,vp2⟩:=val_parts E f hfb2
 have hm1:1≤lmM E f:=by unfold lmM;split<;>omega
 have hMb:lmM E f<9007199254740992:=by unfold lmM;split<;>omega
 obtain ⟨R,hR⟩: ∃R:Int,R=((E*4503599627370496+f:Nat):Int):=⟨_,rfl⟩
 have hDb:(rkD R).1.natAbs<2^53∧ -1074≤(rkD R).2∧(rkD R).2≤1024:=by
  rw [←rkD_fv R (by omega) (by omega)];exact (fv_bd R (by omega) (by omega)).2
 rw [←hR] at vp1 vp2 hp ⊢
 have hDp:0<(rkD R).1:=by
  obtain ⟨k,e1,-⟩:=nrm_rep ((4*lmM E f:Nat):Int) (lmX E)
  rw [vp1] at e1
  rcases Int.lt_trichotomy (rkD R).1 0 with h|h|h
  ·have:=Int.mul_neg_of_neg_of_pos h (pw_pos k);omega
  ·rw [h,Int.zero_mul] at e1;omega
  ·exact h
 obtain ⟨D,hD⟩: ∃D,D=rkD R:=⟨_,rfl⟩
 rw [←hD] at vp1 vp2 hp hDb hDp ⊢
 clear hR hD
 have VP2:=hid vp2
 clear vp2
 have hDn:D.1≠0:=by omega
 have hd0:decide (D.1<0)=false:=decide_eq_false (by omega)
 have l60:D.1.natAbs<2^60:=Nat.lt_of_lt_of_le hDb.1 (Nat.pow_le_pow_right (by omega) (by omega))
 have HV:=hid (fun w=>hasValue_any x h0 h1 w)
 have CL:=hid (fun w=>class_any x h0 h1 w)
 rw [hv] at HV
 have hcb:(classOf x==1)=false:=beq_eq_false_iff_ne.2 hc
 have LM:=hid (fun w=>limits_any x h0 h1 E f hE hf hm1 w)
 have l4M:(limbs (4*lmM E f)).length≤10000:=Nat.le_trans (limbs_short2 64 3 (by omega) _ (by omega)) (by omega)
 have hxb: -2000≤lmX E∧lmX E≤2000:=by unfold lmX lmH;omega
 have NO:=hid (fun a c w hN t=>by
  have h9:=normD_any false a c (4*lmM E f) (lmX E) w hN (by omega) (by omega) t
  rwa [show sg false ((4*lmM E f:Nat):Int)=((4*lmM E f:Nat):Int) from rfl,vp1] at h9)
 have LG:=hid (fun v w h=>log10_any v D pd w h l60 (by omega) hp (by omega))
 have DG:=hid (fun v (k:Nat) w h (hk:k≤2000) t=>by
  have h9:=digits10_any v D k 3 pd w h hDn l60 (by omega) hp (by omega) hk t
  rwa [hd0,shL_sciD D k pd hp] at h9)
 have RD:=hid (fun (k:Nat) w (hk:k≤1500)=>by
  have b1:=shL_bd D k pd hp
  have b2:=decD_len k (shL D k pd) b1.2
  have h9:=natRead_any (decD (shL D k pd)) w (decD_dg _) (by omega)
  rwa [dvl_decD] at h9)
 have O1:=hid (show ∀w,Calls Tryz.prog 95 #[.int .u64 1] w (RetN w 1) from fun w=>natOf_any 1 (by omega) w)
 have y0:=Below.refl w.heap.size w
 have HT:=hid hT
 have HT10:=hid hT10
 clear hT hT10 hv hc hE hf
 go_enter Tryz.func90,Tryz.ntmps90
 go_upto_region 6 with (first|(go_at_call 47;(with_reducible refine (HV.out _).mono ?_);rintro en w1 ⟨rfl,rfl⟩)|(go_at_call 33;(with_reducible refine (CL.out _).mono ?_);rintro en w1 ⟨rfl,rfl⟩)|(go_at_call 160;(with_reducible refine (LM.out _).mono ?_);rintro en w2 ⟨v2,rfl,⟨a1,b1,c1,d1,e1,f1,rfl,n1,n2,n3⟩,hb2⟩))
 have zB:=B5.made (t:=191) (w:=w2) (v0:=.slice a1 (limbs (4*lmM E f)).length d1) (v1:=.slice b1 (limbs (lmL E f)).length e1) (v2:=.slice c1 (limbs (4*lmM E f+2)).length f1) (v3:=.int .i64 (lmX E)) (v4:=.bool (decide (f%2=0))) rfl
 obtain ⟨ev,hev⟩: ∃b,b=decide (f%2=0):=⟨_,rfl⟩
 have HEV:=hid hev
 rw [←hev] at zB
 rw [←hev]
 refine wp_worldZ (fun WW=>Below w.heap.size w WW∧B5 191 WW w2.heap.size (.slice a1 (limbs (4*lmM E f)).length d1) (.slice b1 (limbs (lmL E f)).length e1) (.slice c1 (limbs (4*lmM E f+2)).length f1) (.int .i64 (lmX E)) (.bool ev)∧Ns .u32 WW a1 d1 (limbs (4*lmM E f))∧Ns .u32 WW b1 e1 (limbs (lmL E f))∧Ns .u32 WW c1 f1 (limbs (4*lmM E f+2))) ⟨below_trans hb2 (below_alloc _ _),zB,n1.below (below_alloc _ _),n2.below (below_alloc _ _),n3.below (below_alloc _ _)⟩ ?_
 intro W1 ⟨y1,zB1,p1,p2,p3⟩
 obtain ⟨g5,hg5⟩: ∃g,g=w2.heap.size:=⟨_,rfl⟩
 rw [←hg5] at zB1 ⊢
 clear hg5 zB n1 n2 n3 hb2 y0 hev HV CL LM
 obtain ⟨i0,i1,i2,i3,i4,-⟩:=id zB1
 go_upto_region 7 with (go_at_call 156;(with_reducible refine (NO.out _ _ _ p1 (HT.out.below y1)).mono ?_);rintro en w3 ⟨v3,rfl,⟨am,cm,rfl,hN3⟩,hb3⟩)
 have zQ:QL 67 (w3.alloc (.cells #[.bool false,.slice am (limbs D.1.natAbs).length cm,.int .i64 D.2] 67)) w3.heap.size false (.slice am (limbs D.1.natAbs).length cm) D.2:=QL.made rfl
 refine wp_worldZ (fun WW=>Below w.heap.size w WW∧B5 191 WW g5 (.slice a1 (limbs (4*lmM E f)).length d1) (.slice b1 (limbs (lmL E f)).length e1) (.slice c1 (limbs (4*lmM E f+2)).length f1) (.int .i64 (lmX E)) (.bool ev)∧Ns .u32 WW a1 d1 (limbs (4*lmM E f))∧Ns .u32 WW b1 e1 (limbs (lmL E f))∧Ns .u32 WW c1 f1 (limbs (4*lmM E f+2))∧QL 67 WW w3.heap.size false (.slice am (limbs D.1.natAbs).length cm) D.2∧Ns .u32 WW am cm (limbs D.1.natAbs))
  ⟨below_trans (below_trans y1 hb3) (below_alloc _ _),(zB1.below hb3).below (below_alloc _ _),(p1.below hb3).below (below_alloc _ _),(p2.below hb3).below (below_alloc _ _),(p3.below hb3).below (below_alloc _ _),zQ,hN3.below (below_alloc _ _)⟩ ?_
 intro W2 ⟨y2,zB2,q1,q2,q3,zQ2,qn⟩
 obtain ⟨g6,hg6⟩: ∃g,g=w3.heap.size:=⟨_,rfl⟩
 rw [←hg6] at zQ2 ⊢
 clear hg6 zQ hN3 hb3 zB1 p1 p2 p3 y1 i0 i1 i2 i3 i4 NO
 have VDW:=hid (show ∀w',Below W2.heap.size W2 w'→VD w' D (.agg #[.bool false,.slice am (limbs D.1.natAbs).length cm,.int .i64 D.2]) from fun w' h=>⟨am,cm,by rw [hd0],qn.below h⟩)
 have VBW:=hid (show ∀w',Below W2.heap.size W2 w'→VB w' (4*lmM E f) (lmL E f) (4*lmM E f+2) (lmX E) (decide (f%2=0)) (.agg #[.slice a1 (limbs (4*lmM E f)).length d1,.slice b1 (limbs (lmL E f)).length e1,.slice c1 (limbs (4*lmM E f+2)).length f1,.int .i64 (lmX E),.bool ev]) from fun w' h=>⟨a1,b1,c1,d1,e1,f1,by rw [HEV.out],q1.below h,q2.below h,q3.below h⟩)
 have ZB:=hid (show ∀w',Below W2.heap.size W2 w'→B5 191 w' g5 (.slice a1 (limbs (4*lmM E f)).length d1) (.slice b1 (limbs (lmL E f)).length e1) (.slice c1 (limbs (4*lmM E f+2)).length f1) (.int .i64 (lmX E)) (.bool ev) from fun w' h=>zB2.below h)
 have ZQ:=hid (show ∀w',Below W2.heap.size W2 w'→QL 67 w' g6 false (.slice am (limbs D.1.natAbs).length cm) D.2 from fun w' h=>zQ2.below h)
 have Q1:=hid (show ∀w',Below W2.heap.size W2 w'→Ns .u32 w' a1 d1 (limbs (4*lmM E f)) from fun w' h=>q1.below h)
 obtain ⟨⟨j0,j1,-⟩,j2,-⟩:=id zQ2
 clear zB2 zQ2 q1 q2 q3 qn
 go_upto_block 0 with (go_at_call 161;(with_reducible refine (LG.out _ _ (VDW.out _ (Below.refl _ _))).mono ?_);rintro en w4 ⟨rfl,hb4⟩)
 obtain ⟨W3,hW3⟩: ∃W,W=w4:=⟨_,rfl⟩
 subst hW3
 clear j0 j1 j2 LG
 have yW3:=hb4
 clear hb4
 go_wp2_with fail
 go_loopw [8,9,10,11,12,13,14,15,16,17,18,19] (fun s8 s9 s10 s11 s12 s13 s14 s15 s16 s17 s18 s19 wr=> ∃k:Nat,s8=.int .i64 ((k:Int)+1)∧k≤1400∧(∀j,j<k→shS D E f j pd=false)∧Below W3.heap.size W3 wr) (fun s8 s9 s10 s11 s12 s13 s14 s15 s16 s17 s18 s19 _=>2000-(intOf s8).toNat)
 case atStart=>exact ⟨0,rfl,by omega,fun j h=>by omega,Below.refl _ _⟩
 case round=>
  obtain ⟨k,rfl,hk,hks,yr⟩:=hrel
  have yr2:=below_trans yW3 yr
  obtain ⟨sb1,sb2⟩:=shL_bd D k pd hp
  have hkn:=sh_prog D E f k pd VP2.out hfb2 hr
  have hke:=fun h=>sh_ends D k pd hDb.2.1 h
  have hksome:=fun h=>sh_some D E f k pd VP2.out hfb2 hr h
  have RDk:=hid (fun w=>RD.out k w (by omega))
  obtain ⟨L,hL⟩: ∃L,L=shL D k pd:=⟨_,rfl⟩
  have lL:(limbs L).length≤3002:=by
   have h9:=limbs_ten (k+1) (by omega)
   rw [hL]
   exact Nat.le_trans (limbs_len_mono (Nat.le_of_lt sb2)) h9
  have lL1:(limbs (L+1)).length≤3002:=by
   have h9:=limbs_ten (k+1) (by omega)
   rw [hL]
   exact Nat.le_trans (limbs_len_mono sb2) h9
  have hLp:1≤L:=by
   have:=Nat.pow_pos (n:=k) (show 0<10 by omega)
   omega
  have hkb: -10000≤pd-(k:Int)∧pd-(k:Int)≤10000:=by omega
  have PL:=hid (fun a c b d w h0 h1=>plus_any a b c d L 1 w h0 h1 (by omega) (by rw [show (limbs 1).length=1 from by decide];omega))
  have P2:=hid (fun a c b d w h0 h1=>plus_any a b c d L (L+1) w h0 h1 (by omega) (by omega))
  have FA:=hid (fun v a c w h0 h1=>fits_any v L (4*lmM E f) E f (decide (f%2=0)) (pd-k) a c w h0 h1 (by omega) hE2 hfb2 hkb)
  have FC:=hid (fun v a c w h0 h1=>fits_any v (L+1) (4*lmM E f) E f (decide (f%2=0)) (pd-k) a c w h0 h1 (by omega) hE2 hfb2 hkb)
  have l2L:(limbs (L+(L+1))).length≤10000:=Nat.le_trans (limbs_len_add L (L+1) 3002 3002 lL lL1) (by omega)
  have HC:=hid (fun a c b d w h0 h1=>shCmp_any (L+(L+1)) (4*lmM E f) (pd-k) (lmX E+1) a b c d w h0 h1 l2L l4M hkb (by omega))
  obtain ⟨sp,hsp⟩: ∃z,z=sciP (sciQ false (dA D) (dB D) k pd 3) k pd:=⟨_,rfl⟩
  obtain ⟨sc,hsc⟩: ∃z,z=sciC (dA D) (dB D) k pd:=⟨_,rfl⟩
  have DGk:=hid (show ∀w,VD w D (.agg #[.bool false,.slice am (limbs D.1.natAbs).length cm,.int .i64 D.2])→Tab10 w→Calls Tryz.prog 162 #[.agg #[.bool false,.slice am (limbs D.1.natAbs).length cm,.int .i64 D.2],.int .i64 ((k:Int)+1),.int .i64 3] w fun e w'=>e=.returned (.tuple #[.string (bsOf (decD L)),.int .i64 sp,.bool sc])∧Below w.heap.size w w' from fun w h t=>by
   rw [hL,hsp,hsc];exact DG.out _ k w h (by omega) t)
  rw [←hL] at RDk
  have e9:pd+1-((k:Int)+1)=pd-k:=by omega
  have HL:=hid hL
  clear hsp hsc hL sb1 sb2
  go_upto_region 11 with fail
  clear e9
  obtain ⟨⟨j0,j1,-⟩,j2,-⟩:=ZQ.out _ yr2
  have yw:=below_trans y2 yr2
  have HT9:=hid (HT10.out.below yw)
  go_upto_region 14 with (first|(go_at_call 162;(with_reducible refine (DGk.out _ (VDW.out _ yr2) HT9.out).mono ?_);rintro en w5 ⟨rfl,hb5⟩)|(go_at_call 158;(with_reducible refine (RDk.out _).mono ?_);rintro en w6 ⟨a6,c6,rfl,n6,hb6⟩)|(go_at_call 95;(with_reducible refine (O1.out _).mono ?_);rintro en w7 ⟨a7,rfl,n7,hb7⟩)|(go_at_call 163;(with_reducible refine (PL.out _ _ _ _ _ (n6.below hb7) n7).mono ?_);rintro en w8 ⟨a8,rfl,n8,hb8⟩))
  have yr8:=below_trans (below_trans (below_trans (below_trans yr2 hb5) hb6) hb7) hb8
  have yr8':=below_trans (below_trans (below_trans (below_trans yr hb5) hb6) hb7) hb8
  have m6:=(n6.below hb7).below hb8
  obtain ⟨W8,hW8⟩: ∃W,W=w8:=⟨_,rfl⟩
  subst hW8
  clear j0 j1 j2 n6 n7 hb5 hb6 hb7 hb8 yr yr2 yw HT9 DGk RDk PL
  obtain ⟨a,ha⟩: ∃b,b=fitP E f L (pd-k):=⟨_,rfl⟩
  obtain ⟨c,hc⟩: ∃b,b=fitP E f (L+1) (pd-k):=⟨_,rfl⟩
  rw [←ha] at FA
  rw [←hc] at FC
  have HA:=hid ha
  have HCC:=hid hc
  clear ha hc
  refine wp_region_grow 10 [53,54,55,56,57,58,59,60,15,16] [Fact.is (.agg #[.slice a1 (limbs (4*lmM E f)).length d1,.slice b1 (limbs (lmL E f)).length e1,.slice c1 (limbs (4*lmM E f+2)).length f1,.int .i64 (lmX E),.bool ev]),Fact.is (.slice a6 (limbs L).length c6),Fact.is (.int .i64 (pd-k)),Fact.is (.bool a),Fact.is (.agg #[.slice a1 (limbs (4*lmM E f)).length d1,.slice b1 (limbs (lmL E f)).length e1,.slice c1 (limbs (4*lmM E f+2)).length f1,.int .i64 (lmX E),.bool ev]),Fact.is (.slice a8 (limbs (L+1)).length (limbs (L+1)).length),Fact.is (.int .i64 (pd-k)),Fact.is (.bool c),Fact.is (.bool a),Fact.is (.bool c)] (by kernel_rfl) (by kernel_rfl) ⟨?o0,?o1,?o2,?o3,?o4,?o5,?o6,?o7,?o8,?o9,trivial⟩ ?after
  case o0=>(refine oQ rfl ?_;intro ρ w1 R hcon hfn hρ hb hp hR;have e5:ρ (.tmp 5)=.pointer (some ⟨g5,0,none⟩):=hρ.tmp 5 rfl;obtain ⟨j0,j1,j2,j3,j4,-⟩:=ZB.out _ (below_trans yr8 hb);clear hρ hp;unfold OpRun;go_simp;exact hR _ _ (Below.refl _ _) rfl)
  case o1=>(refine oQ rfl ?_;intro ρ w1 R hcon hfn hρ hb hp hR;have e13:ρ (.tmp 13)=.slice a6 (limbs L).length c6:=hρ.tmp 13 rfl;clear hρ hp;unfold OpRun;go_simp;exact hR _ _ (Below.refl _ _) rfl)
  case o2=>(refine oQ rfl ?_;intro ρ w1 R hcon hfn hρ hb hp hR;have e9:ρ (.tmp 9)=.int .i64 (pd-k):=hρ.tmp 9 rfl;clear hρ hp;unfold OpRun;go_simp;exact hR _ _ (Below.refl _ _) rfl)
  case o3=>(refine oQ rfl ?_;intro ρ w1 R hcon hfn hρ hb hp hR;have e53:ρ (.tmp 53)=_:=hp 0 53 rfl rfl;have e54:ρ (.tmp 54)=_:=hp 1 54 rfl rfl;have e55:ρ (.tmp 55)=_:=hp 2 55 rfl rfl;clear hρ hp;unfold OpRun;go_simp;(refine (FA.out _ a6 c6 _ (VBW.out _ (below_trans yr8 hb)) (m6.below hb)).mono ?_;rintro e wn ⟨rfl,hbn⟩;exact ⟨_,rfl,hR _ _ hbn rfl⟩))
  case o4=>(refine oQ rfl ?_;intro ρ w1 R hcon hfn hρ hb hp hR;have e5:ρ (.tmp 5)=.pointer (some ⟨g5,0,none⟩):=hρ.tmp 5 rfl;obtain ⟨j0,j1,j2,j3,j4,-⟩:=ZB.out _ (below_trans yr8 hb);clear hρ hp;unfold OpRun;go_simp;exact hR _ _ (Below.refl _ _) rfl)
  case o5=>(refine oQ rfl ?_;intro ρ w1 R hcon hfn hρ hb hp hR;have e14:ρ (.tmp 14)=.slice a8 (limbs (L+1)).length (limbs (L+1)).length:=hρ.tmp 14 rfl;clear hρ hp;unfold OpRun;go_simp;exact hR _ _ (Below.refl _ _) rfl)
  case o6=>(refine oQ rfl ?_;intro ρ w1 R hcon hfn hρ hb hp hR;have e9:ρ (.tmp 9)=.int .i64 (pd-k):=hρ.tmp 9 rfl;clear hρ hp;unfold OpRun;go_simp;exact hR _ _ (Below.refl _ _) rfl)
  case o7=>(refine oQ rfl ?_;intro ρ w1 R hcon hfn hρ hb hp hR;have e57:ρ (.tmp 57)=_:=hp 4 57 rfl rfl;have e58:ρ (.tmp 58)=_:=hp 5 58 rfl rfl;have e59:ρ (.tmp 59)=_:=hp 6 59 rfl rfl;clear hρ hp;unfold OpRun;go_simp;(refine (FC.out _ a8 _ _ (VBW.out _ (below_trans yr8 hb)) (n8.below hb)).mono ?_;rintro e wn ⟨rfl,hbn⟩;exact ⟨_,rfl,hR _ _ hbn rfl⟩))
  case o8=>(refine oQ rfl ?_;intro ρ w1 R hcon hfn hρ hb hp hR;have e56:ρ (.tmp 56)=_:=hp 3 56 rfl rfl;clear hρ hp;unfold OpRun;go_simp;exact hR _ _ (Below.refl _ _) rfl)
  case o9=>(refine oQ rfl ?_;intro ρ w1 R hcon hfn hρ hb hp hR;have e60:ρ (.tmp 60)=_:=hp 7 60 rfl rfl;clear hρ hp;unfold OpRun;go_simp;exact hR _ _ (Below.refl _ _) rfl)
  case after=>
   intro u wn hb hf
   have e15:u 15=_:=hf 8 15 (by omega) rfl
   have e16:u 16=_:=hf 9 16 (by omega) rfl
   clear hf
   simp only [putAll,Act.put,List.setIfInBounds_toArray,List.set_cons_zero,List.set_cons_succ,List.drop_succ_cons,List.drop_zero,List.drop_nil]
   rw [e15,e16]
   have yn:=below_trans yr8 hb
   have yn':=below_trans yr8' hb
   replace m6:=m6.below hb
   replace n8:=n8.below hb
   obtain ⟨W9,hW9⟩: ∃W,W=wn:=⟨_,rfl⟩
   subst hW9
   clear yr8 yr8' hb FA FC e15 e16
   obtain ⟨half,hhalf⟩: ∃h,h=cmpT (L+(L+1)) (pd-k) (4*lmM E f) (lmX E+1):=⟨_,rfl⟩
   rw [←hhalf] at HC
   have e2L:L+(L+1)=2*L+1:=by omega
   have HKN:=hid (show (if (a&&c)=true then (decide (half<0)||(decide (half=0)&&decide (L%2=1))) else if a=true then false else c)=shU D E f k pd by
    have h9:=hkn a c (by rw [HA.out,HL.out]) (by rw [HCC.out,HL.out]) half (by rw [hhalf,e2L,HL.out])
    rw [←HL.out] at h9;exact h9)
   obtain ⟨U,hU⟩: ∃U,U=shU D E f k pd:=⟨_,rfl⟩
   rw [←hU] at HKN
   have HZ:=hid (show shZ D E f k pd=if U=true then L+1 else L by unfold shZ;rw [←hU,←HL.out])
   have HS:=hid (show shS D E f k pd=(a||c) by unfold shS;rw [HA.out,HCC.out,HL.out])
   clear hkn hhalf e2L hU
   go_upto_region 15 with fail
   go_cut [64] (fun s64 wx=>s64=.bool (a&&c)∧wx=W9)
   case first=>as_aux_lemma=>
    clear HKN HA HCC HZ HS
    cases a
    all_goals
     go_wp2_with fail
     go_meet
     exact ⟨rfl,rfl⟩
   case rest=>
   obtain ⟨rfl,rfl⟩:=hcut
   obtain ⟨W9,hW9⟩: ∃W,W=wc:=⟨_,rfl⟩
   subst hW9
   go_upto_if 64 with fail
   go_cut [16] (fun s16 wx=>s16=.bool U∧Below W9.heap.size W9 wx)
   case first=>as_aux_lemma=>
    by_cases hac:(a&&c)=true
    ·have h9:=HKN.out
     rw [if_pos hac] at h9
     rw [Bool.and_eq_true] at hac
     obtain ⟨rfl,rfl⟩:=hac
     have H9:=hid h9
     clear h9 HKN HA HCC HZ HS VP2 hksome hke
     go_upto_region 16 with fail
     refine wp_region_grow 11 [65,66,67,68,69,70,71,72,73,74,17] [Fact.is (.slice a6 (limbs L).length c6),Fact.is (.slice a8 (limbs (L+1)).length (limbs (L+1)).length),Fact.li (L+(L+1)),Fact.is (.int .i64 (pd-k)),Fact.is (.pointer (some ⟨g5,0,none⟩)),Fact.is (.slice a1 (limbs (4*lmM E f)).length d1),Fact.is (.pointer (some ⟨g5,3,none⟩)),Fact.is (.int .i64 (lmX E)),Fact.is (.int .i64 (lmX E+1)),Fact.is (.int .i64 half),Fact.is (.int .i64 half)] (by kernel_rfl) (by kernel_rfl) ⟨?o0,?o1,?o2,?o3,?o4,?o5,?o6,?o7,?o8,?o9,?o10,trivial⟩ ?after
     case o0=>(refine oQ rfl ?_;intro ρ w1 R hcon hfn hρ hb hp hR;have e13:ρ (.tmp 13)=.slice a6 (limbs L).length c6:=hρ.tmp 13 rfl;clear hρ hp;unfold OpRun;go_simp;exact hR _ _ (Below.refl _ _) rfl)
     case o1=>(refine oQ rfl ?_;intro ρ w1 R hcon hfn hρ hb hp hR;have e14:ρ (.tmp 14)=.slice a8 (limbs (L+1)).length (limbs (L+1)).length:=hρ.tmp 14 rfl;clear hρ hp;unfold OpRun;go_simp;exact hR _ _ (Below.refl _ _) rfl)
     case o2=>(refine oQ rfl ?_;intro ρ w1 R hcon hfn hρ hb hp hR;have e65:ρ (.tmp 65)=_:=hp 0 65 rfl rfl;have e66:ρ (.tmp 66)=_:=hp 1 66 rfl rfl;clear hρ hp;unfold OpRun;go_simp;(refine (P2.out _ _ _ _ _ (m6.below hb) (n8.below hb)).mono ?_;rintro e wn ⟨b9,rfl,hn9,hbn⟩;exact ⟨_,rfl,hR _ _ hbn ⟨b9,_,rfl,hn9⟩⟩))
     case o3=>(refine oQ rfl ?_;intro ρ w1 R hcon hfn hρ hb hp hR;have e9:ρ (.tmp 9)=.int .i64 (pd-k):=hρ.tmp 9 rfl;clear hρ hp;unfold OpRun;go_simp;exact hR _ _ (Below.refl _ _) rfl)
     case o4=>(refine oQ rfl ?_;intro ρ w1 R hcon hfn hρ hb hp hR;have e5:ρ (.tmp 5)=.pointer (some ⟨g5,0,none⟩):=hρ.tmp 5 rfl;clear hρ hp;unfold OpRun;go_simp;exact hR _ _ (Below.refl _ _) rfl)
     case o5=>(refine oQ rfl ?_;intro ρ w1 R hcon hfn hρ hb hp hR;have e69:ρ (.tmp 69)=_:=hp 4 69 rfl rfl;obtain ⟨j0,j1,j2,j3,j4,-⟩:=ZB.out _ (below_trans yn hb);clear hρ hp;unfold OpRun;go_simp;exact hR _ _ (Below.refl _ _) rfl)
     case o6=>(refine oQ rfl ?_;intro ρ w1 R hcon hfn hρ hb hp hR;have e5:ρ (.tmp 5)=.pointer (some ⟨g5,0,none⟩):=hρ.tmp 5 rfl;clear hρ hp;unfold OpRun;go_simp;exact hR _ _ (Below.refl _ _) rfl)
     case o7=>(refine oQ rfl ?_;intro ρ w1 R hcon hfn hρ hb hp hR;have e71:ρ (.tmp 71)=_:=hp 6 71 rfl rfl;obtain ⟨j0,j1,j2,j3,j4,-⟩:=ZB.out _ (below_trans yn hb);clear hρ hp;unfold OpRun;go_simp;exact hR _ _ (Below.refl _ _) rfl)
     case o8=>(refine oQ rfl ?_;intro ρ w1 R hcon hfn hρ hb hp hR;have e72:ρ (.tmp 72)=_:=hp 7 72 rfl rfl;have hwp:IntKind.i64.wrap (lmX E+1)=lmX E+1:=IntWalk.i64_in _ (by omega);clear hρ hp;unfold OpRun;go_simp;exact hR _ _ (Below.refl _ _) rfl)
     case o9=>(refine oQ rfl ?_;intro ρ w1 R hcon hfn hρ hb hp hR;have f67:=hp 2 67 rfl rfl;have e68:ρ (.tmp 68)=_:=hp 3 68 rfl rfl;have e70:ρ (.tmp 70)=_:=hp 5 70 rfl rfl;have e73:ρ (.tmp 73)=_:=hp 8 73 rfl rfl;obtain ⟨b67,d67,e67,hn67⟩:=f67;clear hρ hp;unfold OpRun;go_simp;(refine (HC.out _ _ _ _ _ hn67 (Q1.out _ (below_trans yn hb))).mono ?_;rintro e wn ⟨rfl,hbn⟩;exact ⟨_,rfl,hR _ _ hbn rfl⟩))
     case o10=>(refine oQ rfl ?_;intro ρ w1 R hcon hfn hρ hb hp hR;have e74:ρ (.tmp 74)=_:=hp 9 74 rfl rfl;clear hρ hp;unfold OpRun;go_simp;exact hR _ _ (Below.refl _ _) rfl)
     case after=>
      intro u wn hb hf
      have e17:u 17=_:=hf 10 17 (by omega) rfl
      clear hf
      simp only [putAll,Act.put,List.setIfInBounds_toArray,List.set_cons_zero,List.set_cons_succ,List.drop_succ_cons,List.drop_zero,List.drop_nil]
      rw [e17]
      have hwn:=below_trans (Below.refl W9.heap.size W9) hb
      have hnb:=m6.below hb
      obtain ⟨W10,hW10⟩: ∃W,W=wn:=⟨_,rfl⟩
      subst hW10
      by_cases h1:half<0
      ·have H5:=hid (show U=true by rw [←H9.out];simp [h1])
       clear H9
       go_wp2_with fail
       go_meet
       exact ⟨by rw [H5.out],hwn⟩
      ·by_cases h2:half=0
       ·have h3:(half==0)=true:=beq_iff_eq.2 h2
        have hpos:0<(limbs L).length:=List.length_pos_iff.2 (fun e=>by have:=(limbs_nil L).1 e;omega)
        obtain ⟨bb,off,rfl,hcell⟩:=hnb.2.2 hpos
        obtain ⟨x0,hx⟩: ∃x,x=(limbs L).getD 0 0:=⟨_,rfl⟩
        have kc:W10.cell? ⟨bb,off,none⟩=some (.int .u32 (x0:Int)):=by have:=hcell 0 hpos;rw [hx];exact this
        have hxo:x0%2=L%2:=by rw [hx];exact limbs_odd L hpos
        have hx2:x0<4294967296:=by rw [hx];exact (limbs_lim L).getD (by omega) 0
        by_cases h4:L%2=1
        ·have HO:((x0:Int)%2==1)=true:=beq_iff_eq.2 (by omega)
         have H5:=hid (show U=true by rw [←H9.out];simp [h2,h4])
         clear hcell hx hxo H9 h2 h4
         go_wp2_with fail
         go_meet
         exact ⟨by rw [H5.out],hwn⟩
        ·have HO:((x0:Int)%2==1)=false:=beq_eq_false_iff_ne.2 (by omega)
         have H5:=hid (show U=false by rw [←H9.out];simp [h2,h4])
         clear hcell hx hxo H9 h2 h4
         go_wp2_with fail
         go_meet
         exact ⟨by rw [H5.out],hwn⟩
       ·have h3:(half==0)=false:=beq_eq_false_iff_ne.2 h2
        have H5:=hid (show U=false by rw [←H9.out];simp [h1,h2])
        clear H9 h2
        go_wp2_with fail
        go_meet
        exact ⟨by rw [H5.out],hwn⟩
    ·have h9:=HKN.out
     rw [if_neg hac] at h9
     have hacf:(a&&c)=false:=eq_false_of_ne_true hac
     have H5:=hid (show c=U by
      rw [←h9]
      cases a
      ·rfl
      ·cases c
       ·rfl
       ·exact absurd rfl hac)
     rw [hacf]
     clear h9 HKN HA HCC HZ HS hac hacf
     go_wp2_with fail
     go_meet
     exact ⟨by rw [H5.out],Below.refl _ _⟩
   case rest=>
    obtain ⟨rfl,yc⟩:=hcut
    obtain ⟨W11,hW11⟩: ∃W,W=wc:=⟨_,rfl⟩
    subst hW11
    have y11:=below_trans yn yc
    have y11':=below_trans yn' yc
    have n11:=n8.below yc
    have HTT:=hid (HT10.out.below (below_trans y2 y11))
    clear yn yn' yc m6 n8 P2 HC
    go_upto_region 18 with fail
    go_cut [93] (fun s93 wx=>s93=.bool (!a&&!U)∧wx=W11)
    case first=>as_aux_lemma=>
     clear HKN HA HCC HZ HS
     cases a
     all_goals
      go_wp2_with fail
      go_meet
      exact ⟨rfl,rfl⟩
    case rest=>
     obtain ⟨rfl,rfl⟩:=hcut
     obtain ⟨W12,hW12⟩: ∃W,W=wc:=⟨_,rfl⟩
     subst hW12
     by_cases hau:(!a&&!U)=true
     ·have hSf:shS D E f k pd=false:=by
       rw [HS.out]
       have h9:=HKN.out
       cases a
       ·cases U
        ·have h8:c=false:=by simpa using h9
         rw [h8];rfl
        ·exact absurd hau (by simp)
       ·exact absurd hau (by simp)
      have hkk:k<1400:=by
       rcases Nat.lt_or_ge k 1400 with h|h
       ·exact h
       ·have:=hksome (hke (by omega))
        rw [hSf] at this;cases this
      have HREL:=hid (show ∀j,j<k+1→shS D E f j pd=false from fun j hj=>by
       by_cases h:j=k
       ·rw [h];exact hSf
       ·exact hks j (by omega))
      have wk9:IntKind.i64.wrap ((k:Int)+1+1)=(k:Int)+1+1:=IntWalk.i64_in _ (by omega)
      rw [hau]
      clear hau hSf hks hke hksome HKN HA HCC HZ HS
      go_wp2_with fail
      go_roundw
      case rel=>exact ⟨k+1,by go_num,by omega,HREL.out,y11'⟩
      case measure=>simp [intOf];omega
     ·have hauf:(!a&&!U)=false:=eq_false_of_ne_true hau
      have hSt:shS D E f k pd=true:=by
       rw [HS.out]
       have h9:=HKN.out
       cases a
       ·cases U
        ·exact absurd rfl hau
        ·have h8:c=true:=by simpa using h9
         rw [h8];rfl
       ·rfl
      have HSS:=hid hSt
      rw [hauf]
      obtain ⟨Z,hZ⟩: ∃Z,Z=if U=true then L+1 else L:=⟨_,rfl⟩
      have hZp:0<Z:=by rw [hZ];split<;>omega
      have HZZ:=hid (show shZ D E f k pd=Z by rw [HZ.out,hZ])
      have hzl:(decD Z).length≤2000:=by
       have h9:=(shL_bd D k pd hp).2
       rw [←HL.out] at h9
       have h8:Z<10^(k+1+1):=by
        rw [Nat.pow_succ]
        rw [hZ];split<;>omega
       exact Nat.le_trans (decD_len (k+1) Z h8) (by omega)
      have DE:=hid (fun ao c w h t=>decimal_any ao c (L+1) w h (by omega) t)
      clear hau hauf hSt hke hksome HKN HA HCC HZ HS
      go_upto_if 95 with fail
      go_cut [18] (fun s18 wx=>s18=.string (bsOf (decD Z))∧Below W12.heap.size W12 wx)
      case first=>as_aux_lemma=>
       cases U
       ·have H5:=hid (show Z=L by rw [hZ];rfl)
        clear hZ
        go_wp2_with fail
        go_meet
        exact ⟨by rw [H5.out],Below.refl _ _⟩
       ·have H5:=hid (show Z=L+1 by rw [hZ];rfl)
        clear hZ
        go_wp2_with (go_at_call 166;(with_reducible refine (DE.out _ _ _ n11 HTT.out).mono ?_);rintro en w13 ⟨rfl,hb13⟩)
        go_meet
        exact ⟨by rw [H5.out],hb13⟩
      case rest=>
       obtain ⟨rfl,y13⟩:=hcut
       have TR:=hid (show ∀w,Calls Tryz.prog 167 #[.string (bsOf (decD Z)),.string ⟨#[48]⟩] w fun e w'=>e=.returned (.string (bsOf (stp (decD Z))))∧w=w' from fun w=>by
        refine (Tryz.strings_TrimRight_one (bsOf (decD Z)) 48 (by decide) w (by rw [bs_size];omega)).mono ?_
        rintro e w1 ⟨h1,rfl⟩
        refine ⟨?_,rfl⟩
        rw [bs_list] at h1
        rw [h1]
        exact ret_bs (by first|rfl|(unfold Lib.trimRightB;rfl)))
       have d3:=(stp_decD Z hZp).2.2.1
       have hsz1:=bs_size (decD Z)
       have hsz2:=bs_size (stp (decD Z))
       have HX:=hid (show shX D E f k pd=pd-k+(((decD Z).length-(stp (decD Z)).length:Nat):Int) by unfold shX;rw [HZZ.out])
       have HTX:=hid (show stp (decD (shZ D E f k pd))=stp (decD Z) by rw [HZZ.out])
       generalize decD Z=T at *
       generalize stp T=S at *
       have w7:IntKind.i64.wrap (pd-(k:Int)+(T.length:Int))=pd-(k:Int)+(T.length:Int):=IntWalk.i64_in _ (by omega)
       obtain ⟨q,hq⟩: ∃q:Int,q=pd-(k:Int)+(T.length:Int)-(S.length:Int):=⟨_,rfl⟩
       have w8:IntKind.i64.wrap (pd-(k:Int)+(T.length:Int)-(S.length:Int))=q:=by rw [IntWalk.i64_in _ (by omega)];exact hq.symm
       have HQ:=hid (show q=shX D E f k pd by rw [HX.out,hq];omega)
       have yend:=below_trans (below_trans y2 y11) y13
       clear hZ hZp HZZ HX hq hzl d3 y11 y11' y13
       go_wp2_with (go_at_call 167;(with_reducible refine (TR.out _).mono ?_);rintro en w14 ⟨rfl,rfl⟩)
       go_ret3
       exact ⟨k,hks,HSS.out,by rw [HTX.out,←HQ.out];rfl,yend⟩
end Go.Proofs.YtfphmlmgjhebjaaGreatDoor
namespace Go.Ulp
open Go.RowKit
def shT (d:List UInt8) (k:Int):List UInt8:=
 if k+(d.length:Int)-1< -5∨20<k+(d.length:Int)-1 then d.take 1++((if 1<d.length then 46::d.drop 1 else [])++101::pwrT (k+(d.length:Int)-1))
 else if 0≤k then d++List.replicate k.toNat 48
 else if 0≤k+(d.length:Int)-1 then d.take (k+(d.length:Int)).toNat++46::d.drop (k+(d.length:Int)).toNat
 else 48::46::(List.replicate (-(k+(d.length:Int))).toNat 48++d)
end Go.Ulp
namespace Go.Proofs.YtfphmlmgjhebjaaGreatDoor
open Go.RowKit Go.Ulp
set_option maxHeartbeats 2000000
set_option maxRecDepth 100000
theorem shText_val (x:Int) (h0:0≤x) (h1:x<18446744073709551616) (c5:classOf x≠5) (c4:classOf x≠4) (c1:classOf x≠1) (d:List UInt8) (k:Int) (hd:1≤d.length∧d.length≤2000) (hk: -3000≤k∧k≤3000)
 (SD: ∀w,Tab 1 w→Tab10 w→Calls Tryz.prog 90 #[.int .u64 x] w fun e w'=>e=.returned (.tuple #[.string (bsOf d),.int .i64 k,.int .i64 0])∧Below w.heap.size w w') (w:World) (hT:Tab 1 w) (hT10:Tab10 w):
 Calls Tryz.prog 35 #[.int .u64 x] w fun e w'=>e=.returned (.string (bsOf (dsh (negB x) (shT d k))))∧Below w.heap.size w w':=by
 have CL:=hid (fun w=>class_any x h0 h1 w)
 have e5:(classOf x==5)=false:=beq_eq_false_iff_ne.2 c5
 have e4:(classOf x==4)=false:=beq_eq_false_iff_ne.2 c4
 have e1:(classOf x==1)=false:=beq_eq_false_iff_ne.2 c1
 have n5:(classOf x !=5)=true:=by rw [bne,e5];rfl
 have SDD:=hid SD
 have HT:=hid hT
 have HT10:=hid hT10
 obtain ⟨S,hS⟩: ∃S:List UInt8,S=if negB x=true then [45] else []:=⟨_,rfl⟩
 have hSl:S.length≤1:=by rw [hS];split<;>simp
 have HDS:=hid (show ∀L,dsh (negB x) L=S++L from fun L=>by rw [hS];unfold dsh;split<;>rfl)
 have HSS:=hid hS
 rw [HDS.out]
 obtain ⟨p,hp⟩: ∃p,p=k+(d.length:Int)-1:=⟨_,rfl⟩
 have HP:=hid hp
 have hsz:=bs_size d
 have wA:IntKind.i64.wrap (k+(d.length:Int))=k+(d.length:Int):=IntWalk.i64_in _ (by omega)
 have wB:IntKind.i64.wrap (k+(d.length:Int)-1)=p:=by rw [IntWalk.i64_in _ (by omega)];exact hp.symm
 clear SD hT hT10 hS c5 c4 c1
 go_enter Tryz.func35,Tryz.ntmps35
 go_upto_region 2 with fail
 go_cut [3,16] (fun s3 s16 wx=>s3=.string ⟨#[]⟩∧s16=.bool (negB x)∧wx=w)
 case first=>as_aux_lemma=>
  by_cases h:9223372036854775808≤x
  ·have hs:x/9223372036854775808=1:=by omega
   have HN:=hid (show negB x=true from decide_eq_true h)
   clear h
   go_wp2_with ((go_at_call 33;(with_reducible refine (CL.out _).mono ?_);rintro en w1 ⟨rfl,rfl⟩))
   go_meet
   exact ⟨rfl,by rw [HN.out],rfl⟩
  ·have hs:x/9223372036854775808=0:=by omega
   have HN:=hid (show negB x=false from decide_eq_false h)
   clear h
   go_wp2_with ((go_at_call 33;(with_reducible refine (CL.out _).mono ?_);rintro en w1 ⟨rfl,rfl⟩))
   go_meet
   exact ⟨rfl,by rw [HN.out],rfl⟩
 case rest=>
  obtain ⟨rfl,rfl,hwc⟩:=hcut
  subst hwc
  go_upto_if 16 with fail
  go_cut [3] (fun s3 wx=>s3=.string (bsOf S)∧wx=wc)
  case first=>as_aux_lemma=>
   cases hng:negB x
   ·have H5:=hid (show S= [] by rw [HSS.out,hng];rfl)
    go_wp2_with fail
    go_meet
    exact ⟨by rw [H5.out];rfl,rfl⟩
   ·have H5:=hid (show S= [45] by rw [HSS.out,hng];rfl)
    go_wp2_with fail
    go_meet
    exact ⟨by rw [H5.out];rfl,rfl⟩
  case rest=>
   obtain ⟨rfl,hwc⟩:=hcut
   subst hwc
   clear hp HSS
   go_upto_region 14 with (first|(go_at_call 33;(with_reducible refine (CL.out _).mono ?_);rintro en w1 ⟨rfl,rfl⟩)|(go_at_call 90;(with_reducible refine (SDD.out _ HT.out HT10.out).mono ?_);rintro en w2 ⟨rfl,hb2⟩))
   have yb2:=hb2
   clear hb2 CL SDD e5 e4 e1 n5 HT
   have HT2:=hid (HT10.out.below yb2)
   clear HT10
   obtain ⟨W2,hW2⟩: ∃W,W=w2:=⟨_,rfl⟩
   subst hW2
   have hpb: -4000≤p∧p≤6000:=by have:=HP.out;omega
   by_cases ho:p< -5∨20<p
   ·have HR:=hid (show S++shT d k=(S++(d.take 1++(if 1<d.length then 46::d.tail else [])))++101::pwrT p by
     unfold shT
     rw [←HP.out,if_pos ho,List.drop_one]
     simp)
    have PW:=hid (fun w h=>power_any p (by omega) w h)
    have s1:=slice_to (P:=Tryz.prog) Tryz.underlying9 d 1 (by omega) (by omega)
    rw [show (1:Int).toNat=1 from rfl] at s1
    have s2:=slice_from (P:=Tryz.prog) Tryz.underlying9 d 1 (by omega) (by omega)
    rw [show (1:Int).toNat=1 from rfl,List.drop_one] at s2
    have l1:(d.take 1).length≤1:=by rw [List.length_take];omega
    have l2:(d.tail).length≤2000:=by rw [List.length_tail];omega
    obtain ⟨F,hF⟩: ∃F,F=S++(d.take 1++(if 1<d.length then 46::d.tail else [])):=⟨_,rfl⟩
    have lF:F.length≤3000:=by
     rw [hF,List.length_append,List.length_append]
     split
     ·rw [List.length_cons];omega
     ·simp;omega
    have lp:(pwrT p).length≤3000:=by
     unfold pwrT
     have:(decD p.natAbs).length≤100:=decD_len_lt _ 100 (by have h9:10^4≤10^100:=Nat.pow_le_pow_right (by omega) (by omega);omega) (by omega)
     simp only [List.length_cons,List.length_append]
     split<;>simp<;>omega
    have ka1:=add_bs (P:=Tryz.prog) S (d.take 1) (by omega)
    have ka2: ∀w,(Op.stringOp .add ⟨#[46]⟩ (bsOf (d.tail))).run Tryz.prog w=.ok (.string (bsOf (46::d.tail))) w:=add_bs (P:=Tryz.prog) [46] (d.tail) (by simp;omega)
    have ka3: ∀w,(Op.stringOp .add (bsOf (S++d.take 1)) (bsOf (46::d.tail))).run Tryz.prog w=.ok (.string (bsOf (S++(d.take 1++46::d.tail)))) w:=by
     have h9:=add_bs (P:=Tryz.prog) (S++d.take 1) (46::d.tail) (by rw [List.length_append,List.length_cons];omega)
     rwa [List.append_assoc] at h9
    have ka4: ∀w,(Op.stringOp .add (bsOf F) ⟨#[101]⟩).run Tryz.prog w=.ok (.string (bsOf (F++ [101]))) w:=add_bs (P:=Tryz.prog) F [101] (by simp;omega)
    have ka5: ∀w,(Op.stringOp .add (bsOf (F++ [101])) (bsOf (pwrT p))).run Tryz.prog w=.ok (.string (bsOf (F++101::pwrT p))) w:=by
     have h9:=add_bs (P:=Tryz.prog) (F++ [101]) (pwrT p) (by rw [List.length_append];simp;omega)
     rwa [List.append_assoc] at h9
    rw [←hF] at HR
    have HFF:=hid hF
    go_cut [41] (fun s41 wx=>s41=.bool true∧wx=W2)
    case first=>as_aux_lemma=>
     clear HFF hF HR
     by_cases a1:p< -5
     ·go_wp2_with fail
      go_meet
      exact ⟨rfl,rfl⟩
     ·have a2:20<p:=by omega
      go_wp2_with fail
      go_meet
      exact ⟨rfl,rfl⟩
    case rest=>
     obtain ⟨rfl,hwc⟩:=hcut
     subst hwc
     clear hF
     go_upto_if 53 with fail
     go_cut [3] (fun s3 wx=>s3=.string (bsOf F)∧wx=wc)
     case first=>as_aux_lemma=>
      by_cases hn:1<d.length
      ·have hn2:(1:Int)<(d.length:Int):=by omega
       have H5:=hid (show S++(d.take 1++46::d.tail)=F by rw [HFF.out,if_pos hn])
       clear HFF HR hn
       go_wp2_with fail
       go_meet
       exact ⟨by rw [H5.out],rfl⟩
      ·have hn2: ¬(1:Int)<(d.length:Int):=by omega
       have H5:=hid (show S++d.take 1=F by rw [HFF.out,if_neg hn,List.append_nil])
       clear HFF HR hn
       go_wp2_with fail
       go_meet
       exact ⟨by rw [H5.out],rfl⟩
     case rest=>
      obtain ⟨rfl,hwc⟩:=hcut
      subst hwc
      clear HFF ka1 ka2 ka3 s1 s2 l1 l2
      go_wp2_with (go_at_call 91;(with_reducible refine (PW.out _ HT2.out).mono ?_);rintro en w5 ⟨rfl,hb5⟩)
      go_ret
      exact ⟨by rw [HR.out];rfl,below_trans yb2 hb5⟩
   ·have q1: ¬p< -5:=fun h=>ho (.inl h)
    have q2: ¬20<p:=fun h=>ho (.inr h)
    by_cases hk0:0≤k
    ·obtain ⟨K,hK⟩:=Int.eq_ofNat_of_zero_le hk0
     have HR:=hid (show S++shT d k=S++(d++List.replicate K 48) by
      unfold shT
      rw [←HP.out,if_neg ho,if_pos hk0,show k.toNat=K by omega])
     have RE:=hid (fun w=>repeat_any 48 K (by omega) w)
     have b48:(ByteArray.mk #[48])=bsOf [48]:=rfl
     have ka1:=add_bs (P:=Tryz.prog) S d (by omega)
     have ka2: ∀w,(Op.stringOp .add (bsOf (S++d)) (bsOf (List.replicate K 48))).run Tryz.prog w=.ok (.string (bsOf (S++(d++List.replicate K 48)))) w:=by
      have h9:=add_bs (P:=Tryz.prog) (S++d) (List.replicate K 48) (by rw [List.length_append,List.length_replicate];omega)
      rwa [List.append_assoc] at h9
     subst hK
     clear ho
     go_wp2_with (go_at_call 70;(with_reducible refine (RE.out _).mono ?_);rintro en w5 ⟨rfl,hb5⟩)
     go_ret
     exact ⟨by rw [HR.out];rfl,below_trans yb2 hb5⟩
    ·by_cases hp0:0≤p
     ·obtain ⟨m,hm⟩: ∃m:Nat,(m:Int)=p+1:=⟨(p+1).toNat,by omega⟩
      have hml:m≤d.length:=by have:=HP.out;omega
      have HR:=hid (show S++shT d k=S++(d.take m++46::d.drop m) by
       unfold shT
       rw [←HP.out,if_neg ho,if_neg hk0,if_pos hp0,show (k+(d.length:Int)).toNat=m by have:=HP.out;omega])
      have s1:=slice_to (P:=Tryz.prog) Tryz.underlying9 d (m:Int) (by omega) (by omega)
      have s2:=slice_from (P:=Tryz.prog) Tryz.underlying9 d (m:Int) (by omega) (by omega)
      rw [Int.toNat_natCast] at s1 s2
      have t1:(d.take m).length≤2000:=by rw [List.length_take];omega
      have t2:(d.drop m).length≤2000:=by rw [List.length_drop];omega
      have ka1:=add_bs (P:=Tryz.prog) S (d.take m) (by omega)
      have ka2: ∀w,(Op.stringOp .add (bsOf (S++d.take m)) ⟨#[46]⟩).run Tryz.prog w=.ok (.string (bsOf (S++(d.take m++ [46])))) w:=by
       have h9:=add_bs (P:=Tryz.prog) (S++d.take m) [46] (by rw [List.length_append];simp;omega)
       rw [List.append_assoc] at h9;exact h9
      have ka3: ∀w,(Op.stringOp .add (bsOf (S++(d.take m++ [46]))) (bsOf (d.drop m))).run Tryz.prog w=.ok (.string (bsOf (S++(d.take m++46::d.drop m)))) w:=by
       have h9:=add_bs (P:=Tryz.prog) (S++(d.take m++ [46])) (d.drop m) (by rw [List.length_append,List.length_append];simp;omega)
       rw [List.append_assoc,List.append_assoc] at h9;exact h9
      have wq:IntKind.i64.wrap (p+1)=(m:Int):=by rw [IntWalk.i64_in _ (by omega)];exact hm.symm
      clear ho hm t1 t2 HT2
      go_upto_region 22 with fail
      refine wp_region_grow 13 [76,77,78,79,80,81,82,83,84,85,86,87,2] [Fact.is (.string (bsOf S)),Fact.is (.string (bsOf d)),Fact.is (.int .i64 p),Fact.is (.int .i64 (m:Int)),Fact.is (.string (bsOf (d.take m))),Fact.is (.string (bsOf (S++d.take m))),Fact.is (.string (bsOf (S++(d.take m++ [46])))),Fact.is (.string (bsOf d)),Fact.is (.int .i64 p),Fact.is (.int .i64 (m:Int)),Fact.is (.string (bsOf (d.drop m))),Fact.is (.string (bsOf (S++(d.take m++46::d.drop m)))),Fact.is (.string (bsOf (S++(d.take m++46::d.drop m))))] (by kernel_rfl) (by kernel_rfl) ⟨?o0,?o1,?o2,?o3,?o4,?o5,?o6,?o7,?o8,?o9,?o10,?o11,?o12,trivial⟩ ?after
      case o0=>(refine oQ rfl ?_;intro ρ w1 R hcon hfn hρ hb hp hR;have e3:ρ (.tmp 3)=.string (bsOf S):=hρ.tmp 3 rfl;clear hρ hp;unfold OpRun;go_simp;exact hR _ _ (Below.refl _ _) rfl)
      case o1=>(refine oQ rfl ?_;intro ρ w1 R hcon hfn hρ hb hp hR;have e4:ρ (.tmp 4)=.string (bsOf d):=hρ.tmp 4 rfl;clear hρ hp;unfold OpRun;go_simp;exact hR _ _ (Below.refl _ _) rfl)
      case o2=>(refine oQ rfl ?_;intro ρ w1 R hcon hfn hρ hb hp hR;have e8:ρ (.tmp 8)=.int .i64 p:=hρ.tmp 8 rfl;clear hρ hp;unfold OpRun;go_simp;exact hR _ _ (Below.refl _ _) rfl)
      case o3=>(refine oQ rfl ?_;intro ρ w1 R hcon hfn hρ hb hp hR;have e78:ρ (.tmp 78)=_:=hp 2 78 rfl rfl;clear hρ hp;unfold OpRun;go_simp;exact hR _ _ (Below.refl _ _) rfl)
      case o4=>(refine oQ rfl ?_;intro ρ w1 R hcon hfn hρ hb hp hR;have e77:ρ (.tmp 77)=_:=hp 1 77 rfl rfl;have e79:ρ (.tmp 79)=_:=hp 3 79 rfl rfl;clear hρ hp;unfold OpRun;go_simp;exact hR _ _ (Below.refl _ _) rfl)
      case o5=>(refine oQ rfl ?_;intro ρ w1 R hcon hfn hρ hb hp hR;have e76:ρ (.tmp 76)=_:=hp 0 76 rfl rfl;have e80:ρ (.tmp 80)=_:=hp 4 80 rfl rfl;clear hρ hp;unfold OpRun;go_simp;exact hR _ _ (Below.refl _ _) rfl)
      case o6=>(refine oQ rfl ?_;intro ρ w1 R hcon hfn hρ hb hp hR;have e81:ρ (.tmp 81)=_:=hp 5 81 rfl rfl;clear hρ hp;unfold OpRun;go_simp;exact hR _ _ (Below.refl _ _) rfl)
      case o7=>(refine oQ rfl ?_;intro ρ w1 R hcon hfn hρ hb hp hR;have e4:ρ (.tmp 4)=.string (bsOf d):=hρ.tmp 4 rfl;clear hρ hp;unfold OpRun;go_simp;exact hR _ _ (Below.refl _ _) rfl)
      case o8=>(refine oQ rfl ?_;intro ρ w1 R hcon hfn hρ hb hp hR;have e8:ρ (.tmp 8)=.int .i64 p:=hρ.tmp 8 rfl;clear hρ hp;unfold OpRun;go_simp;exact hR _ _ (Below.refl _ _) rfl)
      case o9=>(refine oQ rfl ?_;intro ρ w1 R hcon hfn hρ hb hp hR;have e84:ρ (.tmp 84)=_:=hp 8 84 rfl rfl;clear hρ hp;unfold OpRun;go_simp;exact hR _ _ (Below.refl _ _) rfl)
      case o10=>(refine oQ rfl ?_;intro ρ w1 R hcon hfn hρ hb hp hR;have e83:ρ (.tmp 83)=_:=hp 7 83 rfl rfl;have e85:ρ (.tmp 85)=_:=hp 9 85 rfl rfl;clear hρ hp;unfold OpRun;go_simp;exact hR _ _ (Below.refl _ _) rfl)
      case o11=>(refine oQ rfl ?_;intro ρ w1 R hcon hfn hρ hb hp hR;have e82:ρ (.tmp 82)=_:=hp 6 82 rfl rfl;have e86:ρ (.tmp 86)=_:=hp 10 86 rfl rfl;clear hρ hp;unfold OpRun;go_simp;exact hR _ _ (Below.refl _ _) rfl)
      case o12=>(refine oQ rfl ?_;intro ρ w1 R hcon hfn hρ hb hp hR;have e87:ρ (.tmp 87)=_:=hp 11 87 rfl rfl;clear hρ hp;unfold OpRun;go_simp;exact hR _ _ (Below.refl _ _) rfl)
      case after=>
       intro u wn hb hf
       have e2:u 2=_:=hf 12 2 (by omega) rfl
       clear hf
       simp only [putAll,Act.put,List.setIfInBounds_toArray,List.set_cons_zero,List.set_cons_succ,List.drop_succ_cons,List.drop_zero,List.drop_nil]
       rw [e2]
       go_wp2_with fail
       go_ret
       exact ⟨by rw [HR.out];rfl,below_trans yb2 hb⟩
     ·obtain ⟨J,hJ⟩: ∃J:Nat,(J:Int)= -p-1:=⟨(-p-1).toNat,by omega⟩
      have HR:=hid (show S++shT d k=S++48::46::(List.replicate J 48++d) by
       unfold shT
       rw [←HP.out,if_neg ho,if_neg hk0,if_neg hp0,show (-(k+(d.length:Int))).toNat=J by have:=HP.out;omega])
      have RE:=hid (fun w=>repeat_any 48 J (by omega) w)
      have b48:(ByteArray.mk #[48])=bsOf [48]:=rfl
      have ka1: ∀w,(Op.stringOp .add (bsOf S) ⟨#[48,46]⟩).run Tryz.prog w=.ok (.string (bsOf (S++ [48,46]))) w:=add_bs (P:=Tryz.prog) S [48,46] (by simp;omega)
      have ka2: ∀w,(Op.stringOp .add (bsOf (S++ [48,46])) (bsOf (List.replicate J 48))).run Tryz.prog w=.ok (.string (bsOf (S++48::46::List.replicate J 48))) w:=by
       have h9:=add_bs (P:=Tryz.prog) (S++ [48,46]) (List.replicate J 48) (by rw [List.length_append,List.length_replicate];simp;omega)
       rwa [List.append_assoc] at h9
      have ka3: ∀w,(Op.stringOp .add (bsOf (S++48::46::List.replicate J 48)) (bsOf d)).run Tryz.prog w=.ok (.string (bsOf (S++48::46::(List.replicate J 48++d)))) w:=by
       have h9:=add_bs (P:=Tryz.prog) (S++48::46::List.replicate J 48) d (by rw [List.length_append,List.length_cons,List.length_cons,List.length_replicate];omega)
       rwa [List.append_assoc] at h9
      have wp1:IntKind.i64.wrap (-p)= -p:=IntWalk.i64_in _ (by omega)
      have wp2:IntKind.i64.wrap (-p-1)=(J:Int):=by rw [IntWalk.i64_in _ (by omega)];exact hJ.symm
      clear ho hJ
      go_wp2_with (go_at_call 70;(with_reducible refine (RE.out _).mono ?_);rintro en w5 ⟨rfl,hb5⟩)
      go_ret
      exact ⟨by rw [HR.out];rfl,below_trans yb2 hb5⟩
end Go.Proofs.YtfphmlmgjhebjaaGreatDoor
namespace Go.Ulp
open Go.RowKit
def hxc (d:Nat):UInt8:=if d<10 then UInt8.ofNat (48+d) else UInt8.ofNat (87+d)
def hxD:Nat→Nat→List UInt8
 |0,_=> []
 |n+1,m=>hxc (m/16^n%16)::hxD n m
theorem hxD_len: ∀n m,(hxD n m).length=n
 |0,_=>rfl
 |n+1,m=>by show (hxD n m).length+1=n+1;rw [hxD_len n m]
theorem hxD_take: ∀(n m i:Nat),i<n→(hxD n m).take (n-i)=(hxD n m).take (n-(i+1))++ [hxc (m/16^i%16)]
 |0,_,_,h=>by omega
 |n+1,m,i,h=>by
  by_cases e:i=n
  ·subst e
   rw [show i+1-i=1 by omega,show i+1-(i+1)=0 by omega]
   rfl
  ·have ih:=hxD_take n m i (by omega)
   rw [show n+1-i=(n-i)+1 by omega,show n+1-(i+1)=(n-(i+1))+1 by omega]
   show hxc _::(hxD n m).take (n-i)=(hxc _::(hxD n m).take (n-(i+1)))++_
   rw [ih];rfl
theorem getD_val (B:Nat) (hB:0<B) (L:List Nat) (hL:AllLt B L) (j:Nat):L.getD j 0=val B L/B^j%B:=by
 have hp:0<B^j:=Nat.pow_pos hB
 by_cases h:j<L.length
 ·have h1:=val_take_drop B L j (by omega)
  have h2:=val_lt B (L.take j) (fun d h=>hL d (List.mem_of_mem_take h))
  rw [List.length_take,Nat.min_eq_left (by omega)] at h2
  have h3:=val_drop B L j h
  have h4:=hL.getD hB j
  rw [h1,Nat.add_mul_div_left _ _ hp,Nat.div_eq_of_lt h2,Nat.zero_add,h3,Nat.add_mul_mod_self_left,Nat.mod_eq_of_lt h4]
 ·rw [getD_out _ _ (by omega)]
  have h1:=val_lt B L hL
  have h2:B^L.length≤B^j:=Nat.pow_le_pow_right hB (by omega)
  rw [Nat.div_eq_of_lt (by omega),Nat.zero_mod]
theorem limb_digit (m i:Nat):(limbs m).getD (i/8) 0/2^(4*(i%8))%16=m/16^i%16:=by
 rw [getD_val 4294967296 (by omega) (limbs m) (limbs_lim m),show val 4294967296 (limbs m)=m from lval_limbs m]
 obtain ⟨a,ha⟩: ∃a,a=i/8:=⟨_,rfl⟩
 obtain ⟨b,hb⟩: ∃b,b=i%8:=⟨_,rfl⟩
 have hi:i=8*a+b:=by omega
 have hb8:b<8:=by omega
 rw [←ha,←hb]
 have e1:(4294967296:Nat)^a=16^(8*a):=by rw [show (4294967296:Nat)=16^8 by decide,←Nat.pow_mul]
 have e2:(2:Nat)^(4*b)=16^b:=by rw [show (16:Nat)=2^4 by decide,←Nat.pow_mul]
 rw [e1,e2,hi,Nat.pow_add,←Nat.div_div_eq_div_mul]
 generalize m/16^(8*a)=y
 have e3:(4294967296:Nat)=16^b*16^(8-b):=by rw [←Nat.pow_add,show b+(8-b)=8 by omega]
 obtain ⟨c,hc⟩: ∃c,8-b=c+1:=⟨8-b-1,by omega⟩
 rw [e3,Nat.mod_mul_right_div_self,hc,Nat.pow_succ,Nat.mul_comm,Nat.mod_mul_right_mod]
theorem hx_enc: ∀d:Nat,d<16→Utf8.encode ((hxc d).toNat:Int)=⟨#[hxc d]⟩:=by decide
theorem hx_get: ∀(d:Nat) (h:d<16),((ByteArray.mk #[48,49,50,51,52,53,54,55,56,57,97,98,99,100,101,102])[d]'h)=hxc d:=by decide
end Go.Ulp
