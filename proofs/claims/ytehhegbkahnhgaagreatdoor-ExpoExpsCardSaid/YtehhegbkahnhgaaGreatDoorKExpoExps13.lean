/- ExpoExps: what the proof leans on, part 13 (Rr5). -/
import Derived.Deep.DeepCutAuto
import Derived.Deep.CutBlock
import Derived.Test.YtehhegbkahnhgaaGreatDoorKExpoExps7
import Derived.Test.YtehhegbkahnhgaaGreatDoorKExpoExps8
import Derived.Test.YtehhegbkahnhgaaGreatDoorKExpoExps9
import Derived.Test.YtehhegbkahnhgaaGreatDoorKExpoExps11
import Derived.Test.YtehhegbkahnhgaaGreatDoorKExpoExps12
set_option linter.unusedVariables false
set_option linter.unusedSimpArgs false
namespace Go.Ulp
open Go.RowKit
def rkD (n:Int):Dy:=nrm (rvs n) (-1074)
theorem rkD_neg (n:Int):rkD (-n)=negD (rkD n):=by unfold rkD;rw [rvs_neg,nrm_neg]
theorem rkD_fv (x:Int) (h0:0≤x) (h1:x<9223372036854775808):fv x=rkD x:=by
 rw [fv_rank x h0 (by omega)]
 unfold rkD rankOf
 rw [if_neg (by omega)];congr 2;omega
theorem rvi_parts2 (h q:Nat) (hq:q<9007199254740992) (hh:h=0∨4503599627370496≤q):rvi (h*4503599627370496+q)=q*2^h:=by
 unfold rvi
 by_cases h1:h*4503599627370496+q<4503599627370496
 ·rw [if_pos h1,show h=0 by omega];omega
 ·rw [if_neg h1]
  have:4503599627370496≤q:=by omega
  rw [show (h*4503599627370496+q)/4503599627370496-1=h by omega,show (h*4503599627370496+q)%4503599627370496+4503599627370496=q by omega]
theorem rvi_pow (h:Nat):rvi (h*4503599627370496+4503599627370496)=2^(52+h):=by
 rw [rvi_parts2 h 4503599627370496 (by omega) (.inr (by omega)),Nat.pow_add]
theorem rkD_pow (h s:Nat) (z:Int) (hz:z= -(s:Int)+(52+h:Nat)):nrm 1 z=nrm (rvs ((h*4503599627370496+4503599627370496:Nat):Int)) (-(s:Int)):=by
 rw [rvs_nat,rvi_pow,←pw_nat]
 have:=nrm_scale 1 (-(s:Int)) (52+h)
 rw [Int.one_mul] at this
 rw [this,hz]
theorem rkD_top:nrm (pw 1024) 0=rkD 9218868437227405312:=by
 have h1:=nrm_scale 1 0 1024
 rw [Int.one_mul] at h1
 rw [h1]
 exact rkD_pow 2046 1074 _ (by omega)
end Go.Ulp
namespace Go.Proofs.YtehhegbkahnhgaaGreatDoor
open Go.RowKit Go.Ulp
set_option maxHeartbeats 1000000
set_option maxRecDepth 100000
theorem rankVal_pos (a:Int) (h0:0≤a) (h1:a<9218868437227405312) (w:World):
 Calls Tryz.prog 84 #[.int .i64 a] w fun e w'=>RetQD 3 w (rkD a) 1200 1100 e w':=by
 have QV:=hid (show ∀w,Calls Tryz.prog 34 #[.int .u64 a] w fun e w'=>RetQD 3 w (rkD a) 1200 1100 e w' from fun w=>by rw [←rkD_fv a h0 (by omega)];exact qval_any a h0 (by omega) w)
 have ZP:Hid (∀w,Calls Tryz.prog 82 #[.int .i64 1024] w fun e w'=>RetZ 3 w (pw 1024) e w'):=hid (fun w=>zpow_any 1024 w (by omega))
 have yb0:=below_alloc w (.cells #[.bool false,.slice none 0 0,.int .i64 0] 49)
 have zR0:QL 49 (w.alloc (.cells #[.bool false,.slice none 0 0,.int .i64 0] 49)) w.heap.size false (.slice none 0 0) 0:=QL.made rfl
 obtain ⟨p,hp⟩: ∃p,p=pw 1024:=⟨_,rfl⟩
 rw [←hp] at ZP
 clear hp
 have h0n: ¬a<0:=by omega
 go_enter Tryz.func84,Tryz.ntmps84
 go_upto_region 5 with (go_at_call 82;(with_reducible refine (ZP.out _).mono ?_);rintro en w1 ⟨a1,c1,rfl,hN1,hb1⟩)
 have z40:QL 49 (w1.alloc (.cells #[.bool (zneg p),.slice a1 (zl p).length c1,.int .i64 0] 49)) w1.heap.size (zneg p) (.slice a1 (zl p).length c1) 0:=QL.made rfl
 have zR1:=(zR0.below hb1).alloc (.cells #[.bool (zneg p),.slice a1 (zl p).length c1,.int .i64 0] 49)
 have yb1:Below w.heap.size w (w1.alloc (.cells #[.bool (zneg p),.slice a1 (zl p).length c1,.int .i64 0] 49)):=below_trans (below_trans yb0 hb1) (below_alloc _ _)
 have hlt:=(zR0.below hb1).lt
 have hne:w1.heap.size≠w.heap.size:=by omega
 go_upto_region 6 with fail
 go_wp2_with (go_at_call 34;(with_reducible refine (QV.out _).mono ?_);rintro en w2 ⟨v2,rfl,hQ,hb2⟩;have z4:=z40.below hb2;have zR:=zR1.below hb2;have yb2:=below_trans yb1 hb2;obtain ⟨x,nn,ax,cx,rfl,hX,hD,hA,hT⟩:=hQ;have HD:=hid hD;have HA:=hid hA;obtain ⟨⟨k0,k1,f0,f1,s4⟩,k2,f2⟩:=id z4;obtain ⟨⟨m0,m1,g0,g1,sR⟩,m2,g2⟩:=id zR;clear z40 zR1 hD hA hb2 hN1 yb0 zR0 hb1 yb1;have zRs:QL 49 (((w2.setCell ⟨w1.heap.size,0,none⟩ (.bool (zneg x))).setCell ⟨w1.heap.size,1,none⟩ (.slice ax (zl x).length cx)).setCell ⟨w1.heap.size,2,none⟩ (.int .i64 (nn:Int))) w.heap.size false (.slice none 0 0) 0:=((zR.far _ _ (by simp;omega)).far _ _ (by simp;omega)).far _ _ (by simp;omega);have hXs:Nz 3 (((w2.setCell ⟨w1.heap.size,0,none⟩ (.bool (zneg x))).setCell ⟨w1.heap.size,1,none⟩ (.slice ax (zl x).length cx)).setCell ⟨w1.heap.size,2,none⟩ (.int .i64 (nn:Int))) ax cx (zl x):=((hX.setCell s4 (by decide) _ _).setCell (s4.setCell _ _) (by decide) _ _).setCell ((s4.setCell _ _).setCell _ _) (by decide) _ _;have yb3:Below w.heap.size w (((w2.setCell ⟨w1.heap.size,0,none⟩ (.bool (zneg x))).setCell ⟨w1.heap.size,1,none⟩ (.slice ax (zl x).length cx)).setCell ⟨w1.heap.size,2,none⟩ (.int .i64 (nn:Int))):=((yb2.setCell (by first|omega|(simp;done)|(simp;omega)) _).setCell (by first|omega|(simp;done)|(simp;omega)) _).setCell (by first|omega|(simp;done)|(simp;omega)) _)
 have s7:=zRs.1.2.2.2.2
 refine bodyPost_ret (by simp [results,Tryz.results84,go_sem,m0,m1,m2];try rfl) rfl ?_
 exact ⟨_,rfl,⟨_,_,_,_,rfl,((hXs.setCell s7 (by decide) _ _).setCell (s7.setCell _ _) (by decide) _ _).setCell ((s7.setCell _ _).setCell _ _) (by decide) _ _,HD.out,HA.out,hT⟩,((yb3.setCell (by first|omega|(simp;done)|(simp;omega)) _).setCell (by first|omega|(simp;done)|(simp;omega)) _).setCell (by first|omega|(simp;done)|(simp;omega)) _⟩
theorem rankVal_neg (a:Int) (h0:0<a) (h1:a<9218868437227405312) (w:World):
 Calls Tryz.prog 84 #[.int .i64 (-a)] w fun e w'=>RetQD 3 w (rkD (-a)) 1200 1100 e w':=by
 rw [rkD_neg]
 have QV:=hid (show ∀w,Calls Tryz.prog 34 #[.int .u64 a] w fun e w'=>RetQD 3 w (rkD a) 1200 1100 e w' from fun w=>by rw [←rkD_fv a (by omega) (by omega)];exact qval_any a (by omega) (by omega) w)
 have ZP:Hid (∀w,Calls Tryz.prog 82 #[.int .i64 1024] w fun e w'=>RetZ 3 w (pw 1024) e w'):=hid (fun w=>zpow_any 1024 w (by omega))
 have yb0:=below_alloc w (.cells #[.bool false,.slice none 0 0,.int .i64 0] 49)
 have zR0:QL 49 (w.alloc (.cells #[.bool false,.slice none 0 0,.int .i64 0] 49)) w.heap.size false (.slice none 0 0) 0:=QL.made rfl
 obtain ⟨p,hp⟩: ∃p,p=pw 1024:=⟨_,rfl⟩
 rw [←hp] at ZP
 obtain ⟨D,hD0⟩: ∃D,D=rkD a:=⟨_,rfl⟩
 rw [←hD0] at QV ⊢
 clear hp hD0
 have h0n: -a<0:=by omega
 have NG:=hid (fun v w h=>qneg_any v D 1200 1100 w h (by omega) (by omega))
 go_enter Tryz.func84,Tryz.ntmps84
 go_upto_region 5 with (go_at_call 82;(with_reducible refine (ZP.out _).mono ?_);rintro en w1 ⟨a1,c1,rfl,hN1,hb1⟩)
 have z40:QL 49 (w1.alloc (.cells #[.bool (zneg p),.slice a1 (zl p).length c1,.int .i64 0] 49)) w1.heap.size (zneg p) (.slice a1 (zl p).length c1) 0:=QL.made rfl
 have zR1:=(zR0.below hb1).alloc (.cells #[.bool (zneg p),.slice a1 (zl p).length c1,.int .i64 0] 49)
 have yb1:Below w.heap.size w (w1.alloc (.cells #[.bool (zneg p),.slice a1 (zl p).length c1,.int .i64 0] 49)):=below_trans (below_trans yb0 hb1) (below_alloc _ _)
 have hlt:=(zR0.below hb1).lt
 have hne:w1.heap.size≠w.heap.size:=by omega
 go_upto_region 6 with fail
 go_wp2_with (first
  |(go_at_call 34;(with_reducible refine (QV.out _).mono ?_);rintro en w2 ⟨v2,rfl,hQ,hb2⟩;have z4:=z40.below hb2;have zR:=zR1.below hb2;have yb2:=below_trans yb1 hb2;obtain ⟨x,nn,ax,cx,rfl,hX,hD,hA,hT⟩:=hQ;have HD:=hid hD;have HA:=hid hA;obtain ⟨⟨k0,k1,f0,f1,s4⟩,k2,f2⟩:=id z4;obtain ⟨⟨m0,m1,g0,g1,sR⟩,m2,g2⟩:=id zR;clear z40 zR1 hD hA hb2 hN1 yb0 zR0 hb1 yb1;have zRs:QL 49 (((w2.setCell ⟨w1.heap.size,0,none⟩ (.bool (zneg x))).setCell ⟨w1.heap.size,1,none⟩ (.slice ax (zl x).length cx)).setCell ⟨w1.heap.size,2,none⟩ (.int .i64 (nn:Int))) w.heap.size false (.slice none 0 0) 0:=((zR.far _ _ (by simp;omega)).far _ _ (by simp;omega)).far _ _ (by simp;omega);have hXs:Nz 3 (((w2.setCell ⟨w1.heap.size,0,none⟩ (.bool (zneg x))).setCell ⟨w1.heap.size,1,none⟩ (.slice ax (zl x).length cx)).setCell ⟨w1.heap.size,2,none⟩ (.int .i64 (nn:Int))) ax cx (zl x):=((hX.setCell s4 (by decide) _ _).setCell (s4.setCell _ _) (by decide) _ _).setCell ((s4.setCell _ _).setCell _ _) (by decide) _ _;have yb3:Below w.heap.size w (((w2.setCell ⟨w1.heap.size,0,none⟩ (.bool (zneg x))).setCell ⟨w1.heap.size,1,none⟩ (.slice ax (zl x).length cx)).setCell ⟨w1.heap.size,2,none⟩ (.int .i64 (nn:Int))):=((yb2.setCell (by first|omega|(simp;done)|(simp;omega)) _).setCell (by first|omega|(simp;done)|(simp;omega)) _).setCell (by first|omega|(simp;done)|(simp;omega)) _;have hQs:=hid (show QD 3 _ D 1200 1100 _ from ⟨x,nn,ax,cx,rfl,hXs,HD.out,HA.out,hT⟩))
  |(go_at_call 115;(with_reducible refine (NG.out _ _ hQs.out).mono ?_);rintro en w3 ⟨v3,rfl,⟨x3,n3,a3,c3,rfl,hX3,hD3,hA3,hT3⟩,hb3⟩;obtain ⟨⟨i0,i1,i2,i3,s3⟩,i4,i5⟩:=zRs.below hb3;have HD3:=hid hD3;have HA3:=hid hA3;clear hD3 hA3))
 refine bodyPost_ret (by simp [results,Tryz.results84,go_sem,i0,i1,i4];try rfl) rfl ?_
 exact ⟨_,rfl,⟨_,_,_,_,rfl,((hX3.setCell s3 (by decide) _ _).setCell (s3.setCell _ _) (by decide) _ _).setCell ((s3.setCell _ _).setCell _ _) (by decide) _ _,HD3.out,HA3.out,hT3⟩,(((below_trans yb3 hb3).setCell (by first|omega|(simp;done)|(simp;omega)) _).setCell (by first|omega|(simp;done)|(simp;omega)) _).setCell (by first|omega|(simp;done)|(simp;omega)) _⟩
end Go.Proofs.YtehhegbkahnhgaaGreatDoor
namespace Go.Ulp
theorem pw_abs_lt {a b:Nat} (h:a<b):(pw a).natAbs<2^b:=by rw [pw_abs];exact Nat.pow_lt_pow_right (by omega) h
end Go.Ulp
namespace Go.Proofs.YtehhegbkahnhgaaGreatDoor
open Go.RowKit Go.Ulp
set_option maxHeartbeats 1000000
set_option maxRecDepth 100000
theorem rankVal_top (A:Nat) (hAA:1024<A) (hA2:A≤100000000) (w:World):
 Calls Tryz.prog 84 #[.int .i64 9218868437227405312] w fun e w'=>RetQD 3 w (rkD 9218868437227405312) A 1100 e w':=by
 rw [←rkD_top]
 have ZP:Hid (∀w,Calls Tryz.prog 82 #[.int .i64 1024] w fun e w'=>RetZ 3 w (pw 1024) e w'):=hid (fun w=>zpow_any 1024 w (by omega))
 have yb0:=below_alloc w (.cells #[.bool false,.slice none 0 0,.int .i64 0] 49)
 have zR0:QL 49 (w.alloc (.cells #[.bool false,.slice none 0 0,.int .i64 0] 49)) w.heap.size false (.slice none 0 0) 0:=QL.made rfl
 obtain ⟨p,hp⟩: ∃p,p=pw 1024:=⟨_,rfl⟩
 have HP:=hid (show p.natAbs<2^A by rw [hp];exact pw_abs_lt hAA)
 rw [←hp] at ZP ⊢
 clear hp
 go_enter Tryz.func84,Tryz.ntmps84
 go_upto_region 5 with (go_at_call 82;(with_reducible refine (ZP.out _).mono ?_);rintro en w1 ⟨a1,c1,rfl,hN1,hb1⟩)
 obtain ⟨W1,hW1⟩: ∃W,W=w1.alloc (.cells #[.bool (zneg p),.slice a1 (zl p).length c1,.int .i64 0] 49):=⟨_,rfl⟩
 have z40:QL 49 W1 w1.heap.size (zneg p) (.slice a1 (zl p).length c1) 0:=by rw [hW1];exact QL.made rfl
 have zR1:QL 49 W1 w.heap.size false (.slice none 0 0) 0:=by rw [hW1];exact (zR0.below hb1).alloc _
 have yb1:Below w.heap.size w W1:=by rw [hW1];exact below_trans (below_trans yb0 hb1) (below_alloc _ _)
 have hN2:Nz 3 W1 a1 c1 (zl p):=by rw [hW1];exact hN1.below (below_alloc _ _)
 rw [←hW1]
 obtain ⟨⟨k0,k1,f0,f1,s4⟩,k2,f2⟩:=id z40
 obtain ⟨⟨m0,m1,g0,g1,s7⟩,m2,g2⟩:=id zR1
 clear hW1 hN1 hb1 zR0 yb0
 go_wp2_with fail
 refine bodyPost_ret (by simp [results,Tryz.results84,go_sem,m0,m1,m2];try rfl) rfl ?_
 exact ⟨_,rfl,⟨p,0,_,_,rfl,((hN2.setCell s7 (by decide) _ _).setCell (s7.setCell _ _) (by decide) _ _).setCell ((s7.setCell _ _).setCell _ _) (by decide) _ _,rfl,HP.out,by omega⟩,((yb1.setCell (by first|omega|(simp;done)|(simp;omega)) _).setCell (by first|omega|(simp;done)|(simp;omega)) _).setCell (by first|omega|(simp;done)|(simp;omega)) _⟩
theorem rankVal_bot (A:Nat) (hAA:1024<A) (hA2:A≤100000000) (w:World):
 Calls Tryz.prog 84 #[.int .i64 (-9218868437227405312)] w fun e w'=>RetQD 3 w (rkD (-9218868437227405312)) A 1100 e w':=by
 rw [rkD_neg,←rkD_top]
 have ZP:Hid (∀w,Calls Tryz.prog 82 #[.int .i64 1024] w fun e w'=>RetZ 3 w (pw 1024) e w'):=hid (fun w=>zpow_any 1024 w (by omega))
 have yb0:=below_alloc w (.cells #[.bool false,.slice none 0 0,.int .i64 0] 49)
 have zR0:QL 49 (w.alloc (.cells #[.bool false,.slice none 0 0,.int .i64 0] 49)) w.heap.size false (.slice none 0 0) 0:=QL.made rfl
 obtain ⟨p,hp⟩: ∃p,p=pw 1024:=⟨_,rfl⟩
 have HP:=hid (show p.natAbs<2^A by rw [hp];exact pw_abs_lt hAA)
 rw [←hp] at ZP ⊢
 clear hp
 have NG:=hid (fun v w h=>qneg_any v (nrm p 0) A 1100 w h hA2 (by omega))
 generalize hDD:negD (nrm p 0)=DD at *
 clear hDD
 go_enter Tryz.func84,Tryz.ntmps84
 go_upto_region 5 with (go_at_call 82;(with_reducible refine (ZP.out _).mono ?_);rintro en w1 ⟨a1,c1,rfl,hN1,hb1⟩)
 obtain ⟨W1,hW1⟩: ∃W,W=w1.alloc (.cells #[.bool (zneg p),.slice a1 (zl p).length c1,.int .i64 0] 49):=⟨_,rfl⟩
 have z40:QL 49 W1 w1.heap.size (zneg p) (.slice a1 (zl p).length c1) 0:=by rw [hW1];exact QL.made rfl
 have zR1:QL 49 W1 w.heap.size false (.slice none 0 0) 0:=by rw [hW1];exact (zR0.below hb1).alloc _
 have yb1:Below w.heap.size w W1:=by rw [hW1];exact below_trans (below_trans yb0 hb1) (below_alloc _ _)
 have hN2:Nz 3 W1 a1 c1 (zl p):=by rw [hW1];exact hN1.below (below_alloc _ _)
 rw [←hW1]
 obtain ⟨⟨k0,k1,f0,f1,s4⟩,k2,f2⟩:=id z40
 clear hW1 hN1 hb1 zR0 yb0
 have hQs:=hid (show QD 3 W1 (nrm p 0) A 1100 (.agg #[.bool (zneg p),.slice a1 (zl p).length c1,.int .i64 0]) from ⟨p,0,_,_,rfl,hN2,rfl,HP.out,by omega⟩)
 go_wp2_with (go_at_call 115;(with_reducible refine (NG.out _ _ hQs.out).mono ?_);rintro en w3 ⟨v3,rfl,⟨x3,n3,a3,c3,rfl,hX3,hD3,hA3,hT3⟩,hb3⟩;obtain ⟨⟨i0,i1,i2,i3,s3⟩,i4,i5⟩:=zR1.below hb3;have HD3:=hid hD3;have HA3:=hid hA3;clear hD3 hA3)
 refine bodyPost_ret (by simp [results,Tryz.results84,go_sem,i0,i1,i4];try rfl) rfl ?_
 exact ⟨_,rfl,⟨_,_,_,_,rfl,((hX3.setCell s3 (by decide) _ _).setCell (s3.setCell _ _) (by decide) _ _).setCell ((s3.setCell _ _).setCell _ _) (by decide) _ _,HD3.out,HA3.out,hT3⟩,(((below_trans yb1 hb3).setCell (by first|omega|(simp;done)|(simp;omega)) _).setCell (by first|omega|(simp;done)|(simp;omega)) _).setCell (by first|omega|(simp;done)|(simp;omega)) _⟩
theorem rankVal_any (n:Int) (h0: -9218868437227405312≤n) (h1:n≤9218868437227405312) (w:World):
 Calls Tryz.prog 84 #[.int .i64 n] w fun e w'=>RetQD 3 w (rkD n) 1200 1100 e w':=by
 by_cases c0:n<0
 ·by_cases c1:n= -9218868437227405312
  ·subst c1;exact rankVal_bot 1200 (by omega) (by omega) w
  ·have:=rankVal_neg (-n) (by omega) (by omega) w
   rwa [Int.neg_neg] at this
 ·by_cases c1:n=9218868437227405312
  ·subst c1;exact rankVal_top 1200 (by omega) (by omega) w
  ·exact rankVal_pos n (by omega) (by omega) w
end Go.Proofs.YtehhegbkahnhgaaGreatDoor
namespace Go.Ulp
open Go.RowKit
theorem tdiv2 (x:Int): ∃a c:Int,x.tdiv 2=a∧x.tmod 2=c∧x=2*a+c∧ -1≤c∧c≤1:=by
 refine ⟨x.tdiv 2,x.tmod 2,rfl,rfl,?_,?_,?_⟩
 ·exact (Int.mul_tdiv_add_tmod x 2).symm
 ·have:=Int.tmod_lt_of_pos x (show (0:Int)<2 by omega)
  have h2:=Int.lt_tmod_of_pos x (show (0:Int)<2 by omega)
  omega
 ·have:=Int.tmod_lt_of_pos x (show (0:Int)<2 by omega)
  omega
def RetLow (c:Int→Int) (w:World) (e:Ending) (w':World):Prop:= ∃l,e=.returned (.int .i64 l)∧IsLow c l∧Below w.heap.size w w'
end Go.Ulp
namespace Go.Proofs.YtehhegbkahnhgaaGreatDoor
open Go.RowKit Go.Ulp
set_option maxHeartbeats 1000000
set_option maxRecDepth 100000
theorem lowRank_any (v:Value) (D:Dy) (A T:Nat) (w:World) (hq:QD 3 w D A T v) (hA:A≤10000000) (hT:T≤10000000):
 Calls Tryz.prog 83 #[v] w (RetLow (fun r=>cmpD (rkD r) D) w):=by
 have HQ:=hid hq
 obtain ⟨x,n,a0,c0,rfl,h0,-,-,hn⟩:=hq
 have RV:=hid (fun r h0 h1 w=>rankVal_any r h0 h1 w)
 have QC:=hid (fun v r w h1 h2=>qcmp_any v (.agg #[.bool (zneg x),.slice a0 (zl x).length c0,.int .i64 (n:Int)]) (rkD r) D 1200 1100 A T w h1 h2 (by omega) (by omega) (by omega) (by omega))
 have zA0:QL 49 (w.alloc (.cells #[.bool (zneg x),.slice a0 (zl x).length c0,.int .i64 (n:Int)] 49)) w.heap.size (zneg x) (.slice a0 (zl x).length c0) n:=QL.made rfl
 have yb0:=below_alloc w (.cells #[.bool (zneg x),.slice a0 (zl x).length c0,.int .i64 (n:Int)] 49)
 obtain ⟨c,hc⟩: ∃c,c=fun r=>cmpD (rkD r) D:=⟨_,rfl⟩
 have HC:=hid (fun r=>(show c r=cmpD (rkD r) D by rw [hc]))
 rw [←hc]
 clear hc
 go_enter Tryz.func83,Tryz.ntmps83
 go_upto_block 0 with fail
 go_cut [3,4,5] (fun s3 s4 s5 wx=> ∃l:Int,s3=.int .i64 l∧IsLow c l∧Below w.heap.size w wx)
 case first=>
  go_wp2_with fail
  go_loopw [3,4,5] (fun s3 s4 s5 wr=> ∃lo hi:Int,s3=.int .i64 lo∧s4=.int .i64 hi∧ -9218868437227405312≤lo∧lo<hi∧hi≤9218868437227405312∧(lo= -9218868437227405312∨c lo≤0)∧(hi=9218868437227405312∨0<c hi)∧Below (w.alloc (.cells #[.bool (zneg x),.slice a0 (zl x).length c0,.int .i64 (n:Int)] 49)).heap.size (w.alloc (.cells #[.bool (zneg x),.slice a0 (zl x).length c0,.int .i64 (n:Int)] 49)) wr) (fun s3 s4 _ _=>(intOf s4-intOf s3).toNat)
  case atStart=>exact ⟨_,_,rfl,rfl,by omega,by omega,by omega,.inl rfl,.inl rfl,Below.refl _ _⟩
  case round=>
   obtain ⟨lo,hi,rfl,rfl,b1,b2,b3,hlo,hhi,hb⟩:=hrel
   have HLO:=hid hlo
   have HHI:=hid hhi
   clear hlo hhi
   by_cases hlt:lo+1<hi
   ·obtain ⟨ta,tc,e1,e2,e3,e4,e5⟩:=tdiv2 lo
    obtain ⟨tb,td,e6,e7,e8,e9,e10⟩:=tdiv2 hi
    obtain ⟨tf,tg,e11,e12,e13,e14,e15⟩:=tdiv2 (tc+td)
    have hm1:lo<ta+tb+tf:=by omega
    have hm2:ta+tb+tf<hi:=by omega
    have w11: -9218868437227405312≤ta:=by omega
    have w12:ta≤9218868437227405312:=by omega
    have w13: -9218868437227405312≤tb:=by omega
    have w14:tb≤9218868437227405312:=by omega
    have w1: -9218868437227405312≤ta+tb:=by omega
    have w2:ta+tb≤9218868437227405312:=by omega
    have w3: -2≤tc+td:=by omega
    have w4:tc+td≤2:=by omega
    have w5: -2≤tf:=by omega
    have w6:tf≤2:=by omega
    have w7: -9218868437227405312≤ta+tb+tf:=by omega
    have w8:ta+tb+tf≤9218868437227405312:=by omega
    have BND:=hid (And.intro hm1 hm2)
    clear e3 e8 e12 e13 e4 e5 e9 e10 e14 e15 hm1 hm2
    go_upto_region 4 with fail
    obtain ⟨m,hm⟩: ∃m,m=ta+tb+tf:=⟨_,rfl⟩
    rw [←hm] at BND w7 w8 ⊢
    clear e1 e2 e6 e7 e11 w1 w2 w3 w4 w5 w6 hm
    have hb0:=hb
    have zA:=zA0.below hb
    have RVm:=hid (fun w=>RV.out m w7 w8 w)
    have QCm:=hid (fun v w h1 h2=>by have:=QC.out v m w h1 h2;rwa [←HC.out m] at this)
    obtain ⟨cm,hcm⟩: ∃x,x=c m:=⟨_,rfl⟩
    have HCM:=hid hcm
    rw [←hcm] at QCm
    clear hcm w7 w8
    go_cut [26] (fun s26 wx=>s26=.bool (decide (cm≤0))∧Below wr.heap.size wr wx)
    case first=>
     refine wp_region_grow 5 [22,23,24,25,26] [Fact.is (.int .i64 m),Fact.q 3 (rkD m) 1200 1100,Fact.is (.agg #[.bool (zneg x),.slice a0 (zl x).length c0,.int .i64 (n:Int)]),Fact.is (.int .i64 cm),Fact.is (.bool (decide (cm≤0)))] (by kernel_rfl) (by kernel_rfl) ⟨?o0,?o1,?o2,?o3,?o4,trivial⟩ ?after
     case o0=>(refine oQ rfl ?_;intro ρ w1 R hcon hfn hρ hb hp hR;have e5:ρ (.tmp 5)=.int .i64 m:=hρ.tmp 5 rfl;clear hρ hp;unfold OpRun;go_simp;exact hR _ _ (Below.refl _ _) rfl)
     case o1=>(refine oQ rfl ?_;intro ρ w1 R hcon hfn hρ hb hp hR;have e22:ρ (.tmp 22)=_:=hp 0 22 rfl rfl;clear hρ hp;unfold OpRun;go_simp;(refine (RVm.out _).mono ?_;rintro e wn ⟨v,rfl,hq3,hbn⟩;exact ⟨_,rfl,hR _ _ hbn hq3⟩))
     case o2=>(refine oQ rfl ?_;intro ρ w1 R hcon hfn hρ hb hp hR;have e1:ρ (.tmp 1)=.pointer (some ⟨w.heap.size,0,none⟩):=hρ.tmp 1 rfl;obtain ⟨⟨j0,j1,-,-,-⟩,j2,-⟩:=zA.below hb;clear hρ hp;unfold OpRun;go_simp;exact hR _ _ (Below.refl _ _) rfl)
     case o3=>(refine oQ rfl ?_;intro ρ w1 R hcon hfn hρ hb hp hR;have f23:=hp 1 23 rfl rfl;have e24:ρ (.tmp 24)=_:=hp 2 24 rfl rfl;clear hρ hp;unfold OpRun;go_simp;(refine (QCm.out _ _ f23 (HQ.out.below (below_trans (below_trans yb0 hb0) hb))).mono ?_;rintro e wn ⟨rfl,hbn⟩;exact ⟨_,rfl,hR _ _ hbn rfl⟩))
     case o4=>(refine oQ rfl ?_;intro ρ w1 R hcon hfn hρ hb hp hR;have e25:ρ (.tmp 25)=_:=hp 3 25 rfl rfl;clear hρ hp;unfold OpRun;go_simp;exact hR _ _ (Below.refl _ _) rfl)
     case after=>
      intro u wn hb hf
      have e26:u 26=_:=hf 4 26 (by omega) rfl
      clear hf
      simp only [putAll,Act.put,List.setIfInBounds_toArray,List.set_cons_zero,List.set_cons_succ,List.drop_succ_cons,List.drop_zero,List.drop_nil]
      rw [e26]
      go_wp2_with fail
      go_meet
      exact ⟨rfl,hb⟩
    case rest=>
     obtain ⟨rfl,hb2⟩:=hcut
     have hb3:=below_trans hb hb2
     by_cases hs:cm≤0
     ·go_wp2_with fail
      go_roundw
      case rel=>exact ⟨m,hi,rfl,rfl,by have:=BND.out;omega,by have:=BND.out;omega,b3,.inr (by rw [←HCM.out];exact hs),HHI.out,hb3⟩
      case measure=>simp [intOf];have:=BND.out;omega
     ·go_wp2_with fail
      go_roundw
      case rel=>exact ⟨lo,m,rfl,rfl,b1,by have:=BND.out;omega,by have:=BND.out;omega,HLO.out,.inr (by rw [←HCM.out];omega),hb3⟩
      case measure=>simp [intOf];have:=BND.out;omega
   ·go_wp2_with fail
    go_meet
    exact ⟨lo,rfl,⟨b1,by omega,HLO.out,by
     have e:lo+1=hi:=by omega
     rw [e];exact HHI.out⟩,below_trans yb0 hb⟩
 case rest=>
  obtain ⟨l,rfl,hl,hb⟩:=hcut
  have HL:=hid hl
  clear hl
  go_wp2_with fail
  go_ret
  exact ⟨l,rfl,HL.out,hb⟩
end Go.Proofs.YtehhegbkahnhgaaGreatDoor
namespace Go.Ulp
open Go.RowKit
theorem ret2' {a b:Int} {c d:Bool} (h:a=b) (h':c=d):Ending.returned (.tuple #[.int .u64 a,.bool c])=.returned (.tuple #[.int .u64 b,.bool d]):=by rw [h,h']
theorem QD.zero {t:TypeId} {w:World} {A T:Nat} (hA:0<A):QD t w (0,0) A T (.agg #[.bool false,.slice none 0 0,.int .i64 0]):=
 ⟨0,0,none,0,rfl,Nz.nil' _ _ (by unfold maxLen;omega),rfl,Nat.two_pow_pos A,Nat.zero_le _⟩
def RetRd (c cm:Int→Int) (cz more mode:Int) (w:World) (e:Ending) (w':World):Prop:=
 ∃l,IsLow c l∧e=.returned (.tuple #[.int .u64 (moreAns c cm cz more mode l).1,.bool (moreAns c cm cz more mode l).2])∧Below w.heap.size w w'
end Go.Ulp
namespace Go.Proofs.YtehhegbkahnhgaaGreatDoor
open Go.RowKit Go.Ulp
set_option maxHeartbeats 1000000
set_option maxRecDepth 100000
theorem tell_any (neg:Bool) (g:Nat) (r:Int) (h0: -9218868437227405312≤r) (h1:r≤9218868437227405312) (w:World) (hc:w.cell? ⟨g,0,none⟩=some (.bool neg)):
 Calls Tryz.prog 86 #[.int .i64 r,.pointer (some ⟨g,0,none⟩)] w fun e w'=>e=.returned (.tuple #[.int .u64 (tellR neg r),.bool true])∧w=w':=by
 have RK:=hid (fun w=>ranked_any r h0 h1 w)
 by_cases hr:r=0
 ·subst hr
  cases neg
  ·have H:=hid (show ranked 0=tellR false 0 by unfold tellR;rw [if_neg (by simp)])
   go_enter Tryz.func86,Tryz.ntmps86
   go_wp2_with (go_at_call 85;(with_reducible refine (RK.out _).mono ?_);rintro e w1 ⟨rfl,rfl⟩)
   go_ret2
   exact ⟨ret2' H.out rfl,rfl⟩
  ·have H:=hid (show 9223372036854775808=tellR true 0 by unfold tellR;rw [if_pos ⟨rfl,rfl⟩])
   go_enter Tryz.func86,Tryz.ntmps86
   go_wp2_with (go_at_call 85;(with_reducible refine (RK.out _).mono ?_);rintro e w1 ⟨rfl,rfl⟩)
   go_ret2
   exact ⟨ret2' H.out rfl,rfl⟩
 ·have H:=hid (show ranked r=tellR neg r by unfold tellR;rw [if_neg (fun h=>hr h.1)])
  have hb:(r==0)=false:=beq_eq_false_iff_ne.2 hr
  clear hr
  go_enter Tryz.func86,Tryz.ntmps86
  go_wp2_with (go_at_call 85;(with_reducible refine (RK.out _).mono ?_);rintro e w1 ⟨rfl,rfl⟩)
  go_ret2
  exact ⟨ret2' H.out rfl,rfl⟩
theorem rounded_any (v:Value) (D:Dy) (A T:Nat) (more mode:Int) (w:World) (hq:QD 3 w D A T v) (hA:A≤10000000) (hT:T≤200000) (hmore:more= -1∨more=0∨more=1):
 Calls Tryz.prog 39 #[v,.int .i64 more,.int .i64 mode] w (RetRd (fun r=>cmpD (rkD r) D) (fun r=>cmpD (shD D 1) (addD (rkD r) (rkD (r+1)))) (cmpD D (0,0)) more mode w):=by
 have HQ:=hid hq
 obtain ⟨x,n,a0,c0,rfl,h0,-,-,hn⟩:=hq
 have LR:=hid (fun w h=>lowRank_any (.agg #[.bool (zneg x),.slice a0 (zl x).length c0,.int .i64 (n:Int)]) D A T w h hA (by omega))
 have RV:=hid (fun r h0 h1 w=>rankVal_any r h0 h1 w)
 have RK:=hid (fun r h0 h1 w=>ranked_any r h0 h1 w)
 have QCr:=hid (fun v r w h1 h2=>qcmp_any v (.agg #[.bool (zneg x),.slice a0 (zl x).length c0,.int .i64 (n:Int)]) (rkD r) D 1200 1100 A T w h1 h2 (by omega) (by omega) (by omega) (by omega))
 have QCz:=hid (fun w h=>qcmp_any (.agg #[.bool (zneg x),.slice a0 (zl x).length c0,.int .i64 (n:Int)]) (.agg #[.bool false,.slice none 0 0,.int .i64 0]) D (0,0) A T 1 0 w h (QD.zero (by omega)) (by omega) (by omega) (by omega) (by omega))
 have QS:=hid (fun w h=>qshift_any (.agg #[.bool (zneg x),.slice a0 (zl x).length c0,.int .i64 (n:Int)]) D A T 1 w h (by omega) hT (by omega) (by omega))
 have QA:=hid (fun v u r s w h1 h2=>qadd_any v u (rkD r) (rkD s) 1200 1100 1200 1100 w h1 h2 (by omega) (by omega) (by omega) (by omega))
 have zA0:QL 49 (w.alloc (.cells #[.bool (zneg x),.slice a0 (zl x).length c0,.int .i64 (n:Int)] 49)) w.heap.size (zneg x) (.slice a0 (zl x).length c0) n:=QL.made rfl
 have yb0:=below_alloc w (.cells #[.bool (zneg x),.slice a0 (zl x).length c0,.int .i64 (n:Int)] 49)
 obtain ⟨c,hc⟩: ∃c,c=fun r=>cmpD (rkD r) D:=⟨_,rfl⟩
 obtain ⟨cm,hcm⟩: ∃c,c=fun r=>cmpD (shD D 1) (addD (rkD r) (rkD (r+1))):=⟨_,rfl⟩
 obtain ⟨cz,hcz⟩: ∃c,c=cmpD D (0,0):=⟨_,rfl⟩
 have HC:=hid (fun r=>(show c r=cmpD (rkD r) D by rw [hc]))
 have HCM:=hid (fun r=>(show cm r=cmpD (shD D 1) (addD (rkD r) (rkD (r+1))) by rw [hcm]))
 rw [←hc,←hcm,←hcz]
 rw [←hc] at LR
 rw [←hcz] at QCz
 clear hc hcm hcz
 have hmf: ∀fn first cap w,(Instr.makeFunc fn first cap).run Tryz.prog w=.ok (.func fn first cap) w:=fun _ _ _ _=>rfl
 go_enter Tryz.func39,Tryz.ntmps39
 go_upto_region 2 with (go_at_call 83;(with_reducible refine (LR.out _ (HQ.out.below yb0)).mono ?_);rintro e w1 ⟨l,rfl,hl,hb1⟩)
 have HL:=hid hl
 obtain ⟨l0,l1,-,-⟩:=hl
 have zA1:=zA0.below hb1
 have yb1:=below_trans yb0 hb1
 clear zA0 yb0 hb1
 obtain ⟨same,hsame⟩: ∃s:Bool,s=decide (-9218868437227405312<l∧c l=0):=⟨_,rfl⟩
 have HS:=hid hsame
 clear hsame
 go_cut [9] (fun s9 wx=>s9=.bool same∧Below w1.heap.size w1 wx)
 case first=>
  by_cases hlb: -9218868437227405312<l
  ·have QCl:=hid (fun v w h1 h2=>by have:=QCr.out v l w h1 h2;rwa [←HC.out l] at this)
   have RVl:=hid (fun w=>RV.out l l0 (by omega) w)
   have H9:=hid (show (c l==0)=same by rw [HS.out,Bool.eq_iff_iff,beq_iff_eq,decide_eq_true_eq];exact ⟨fun h=>⟨hlb,h⟩,fun h=>h.2⟩)
   have hd:decide (-9218868437227405312<l)=true:=decide_eq_true hlb
   generalize c l=cl at QCl H9
   refine wp_region_grow 10 [17,18,19,20,21,22,23,24,25,9] [Fact.is (.int .i64 l),Fact.is (.bool true),Fact.is (.bool true),Fact.is (.int .i64 l),Fact.q 3 (rkD l) 1200 1100,Fact.is (.agg #[.bool (zneg x),.slice a0 (zl x).length c0,.int .i64 (n:Int)]),Fact.is (.int .i64 cl),Fact.is (.bool (cl==0)),Fact.is (.bool (cl==0)),Fact.is (.bool (cl==0))] (by kernel_rfl) (by kernel_rfl) ⟨?o0,?o1,?o2,?o3,?o4,?o5,?o6,?o7,?o8,?o9,trivial⟩ ?after
   case o0=>(refine oQ rfl ?_;intro ρ w1 R hcon hfn hρ hb hp hR;have e8:ρ (.tmp 8)=.int .i64 l:=hρ.tmp 8 rfl;clear hρ hp;unfold OpRun;go_simp;exact hR _ _ (Below.refl _ _) rfl)
   case o1=>(refine oQ rfl ?_;intro ρ w1 R hcon hfn hρ hb hp hR;have e17:ρ (.tmp 17)=_:=hp 0 17 rfl rfl;clear hρ hp;unfold OpRun;go_simp;exact hR _ _ (Below.refl _ _) rfl)
   case o2=>(refine oQ rfl ?_;intro ρ w1 R hcon hfn hρ hb hp hR;have e18:ρ (.tmp 18)=_:=hp 1 18 rfl rfl;clear hρ hp;unfold OpRun;go_simp;exact hR _ _ (Below.refl _ _) rfl)
   case o3=>(intro ρ w1 R hρ hb hp hR;have eg:ρ (.tmp 19)=.bool true:=hp 2 19 rfl rfl;refine ⟨fun _=>?_,fun hg=>absurd hg (by simp [guardOf,eg])⟩;clear eg;have e8:ρ (.tmp 8)=.int .i64 l:=hρ.tmp 8 rfl;have hcon:=hρ.con;have hfn:=hρ.fn;clear hρ hp;unfold OpRun;go_simp;exact hR _ _ (Below.refl _ _) rfl)
   case o4=>(intro ρ w1 R hρ hb hp hR;have eg:ρ (.tmp 19)=.bool true:=hp 2 19 rfl rfl;refine ⟨fun _=>?_,fun hg=>absurd hg (by simp [guardOf,eg])⟩;clear eg;have e20:ρ (.tmp 20)=_:=hp 3 20 rfl rfl;have hcon:=hρ.con;have hfn:=hρ.fn;clear hρ hp;unfold OpRun;go_simp;(refine (RVl.out _).mono ?_;rintro e wn ⟨v,rfl,hq3,hbn⟩;exact ⟨_,rfl,hR _ _ hbn hq3⟩))
   case o5=>(intro ρ w1 R hρ hb hp hR;have eg:ρ (.tmp 19)=.bool true:=hp 2 19 rfl rfl;refine ⟨fun _=>?_,fun hg=>absurd hg (by simp [guardOf,eg])⟩;clear eg;have e3:ρ (.tmp 3)=.pointer (some ⟨w.heap.size,0,none⟩):=hρ.tmp 3 rfl;obtain ⟨⟨j0,j1,-,-,-⟩,j2,-⟩:=zA1.below hb;have hcon:=hρ.con;have hfn:=hρ.fn;clear hρ hp;unfold OpRun;go_simp;exact hR _ _ (Below.refl _ _) rfl)
   case o6=>(intro ρ w1 R hρ hb hp hR;have eg:ρ (.tmp 19)=.bool true:=hp 2 19 rfl rfl;refine ⟨fun _=>?_,fun hg=>absurd hg (by simp [guardOf,eg])⟩;clear eg;have f21:=hp 4 21 rfl rfl;have e22:ρ (.tmp 22)=_:=hp 5 22 rfl rfl;have hcon:=hρ.con;have hfn:=hρ.fn;clear hρ hp;unfold OpRun;go_simp;(refine (QCl.out _ _ f21 (HQ.out.below (below_trans yb1 hb))).mono ?_;rintro e wn ⟨rfl,hbn⟩;exact ⟨_,rfl,hR _ _ hbn rfl⟩))
   case o7=>(intro ρ w1 R hρ hb hp hR;have eg:ρ (.tmp 19)=.bool true:=hp 2 19 rfl rfl;refine ⟨fun _=>?_,fun hg=>absurd hg (by simp [guardOf,eg])⟩;clear eg;have e23:ρ (.tmp 23)=_:=hp 6 23 rfl rfl;have hcon:=hρ.con;have hfn:=hρ.fn;clear hρ hp;unfold OpRun;go_simp;exact hR _ _ (Below.refl _ _) rfl)
   case o8=>(refine oQ rfl ?_;intro ρ w1 R hcon hfn hρ hb hp hR;have e19:ρ (.tmp 19)=_:=hp 2 19 rfl rfl;have e24:ρ (.tmp 24)=_:=hp 7 24 rfl rfl;clear hρ hp;unfold OpRun;go_simp;exact hR _ _ (Below.refl _ _) rfl)
   case o9=>(refine oQ rfl ?_;intro ρ w1 R hcon hfn hρ hb hp hR;have e25:ρ (.tmp 25)=_:=hp 8 25 rfl rfl;clear hρ hp;unfold OpRun;go_simp;exact hR _ _ (Below.refl _ _) rfl)
   case after=>
    intro u wn hb hf
    have e9:u 9=_:=hf 9 9 (by omega) rfl
    clear hf
    simp only [putAll,Act.put,List.setIfInBounds_toArray,List.set_cons_zero,List.set_cons_succ,List.drop_succ_cons,List.drop_zero,List.drop_nil]
    rw [e9]
    go_wp2_with fail
    go_meet
    exact ⟨by rw [H9.out],hb⟩
  ·have H9:=hid (show false=same by rw [HS.out,eq_comm,decide_eq_false_iff_not];exact fun h=>hlb h.1)
   have hd:decide (-9218868437227405312<l)=false:=decide_eq_false hlb
   refine wp_region_grow 10 [17,18,19,20,21,22,23,24,25,9] [Fact.is (.int .i64 l),Fact.is (.bool false),Fact.is (.bool false),Fact.any,Fact.any,Fact.any,Fact.any,Fact.any,Fact.is (.bool false),Fact.is (.bool false)] (by kernel_rfl) (by kernel_rfl) ⟨?o0,?o1,?o2,?o3,?o4,?o5,?o6,?o7,?o8,?o9,trivial⟩ ?after
   case o0=>(refine oQ rfl ?_;intro ρ w1 R hcon hfn hρ hb hp hR;have e8:ρ (.tmp 8)=.int .i64 l:=hρ.tmp 8 rfl;clear hρ hp;unfold OpRun;go_simp;exact hR _ _ (Below.refl _ _) rfl)
   case o1=>(refine oQ rfl ?_;intro ρ w1 R hcon hfn hρ hb hp hR;have e17:ρ (.tmp 17)=_:=hp 0 17 rfl rfl;clear hρ hp;unfold OpRun;go_simp;exact hR _ _ (Below.refl _ _) rfl)
   case o2=>(refine oQ rfl ?_;intro ρ w1 R hcon hfn hρ hb hp hR;have e18:ρ (.tmp 18)=_:=hp 1 18 rfl rfl;clear hρ hp;unfold OpRun;go_simp;exact hR _ _ (Below.refl _ _) rfl)
   case o3=>(intro ρ w1 R hρ hb hp hR;have eg:ρ (.tmp 19)=.bool false:=hp 2 19 rfl rfl;exact ⟨fun hg=>absurd hg (by simp [guardOf,eg]),fun _=>trivial⟩)
   case o4=>(intro ρ w1 R hρ hb hp hR;have eg:ρ (.tmp 19)=.bool false:=hp 2 19 rfl rfl;exact ⟨fun hg=>absurd hg (by simp [guardOf,eg]),fun _=>trivial⟩)
   case o5=>(intro ρ w1 R hρ hb hp hR;have eg:ρ (.tmp 19)=.bool false:=hp 2 19 rfl rfl;exact ⟨fun hg=>absurd hg (by simp [guardOf,eg]),fun _=>trivial⟩)
   case o6=>(intro ρ w1 R hρ hb hp hR;have eg:ρ (.tmp 19)=.bool false:=hp 2 19 rfl rfl;exact ⟨fun hg=>absurd hg (by simp [guardOf,eg]),fun _=>trivial⟩)
   case o7=>(intro ρ w1 R hρ hb hp hR;have eg:ρ (.tmp 19)=.bool false:=hp 2 19 rfl rfl;exact ⟨fun hg=>absurd hg (by simp [guardOf,eg]),fun _=>trivial⟩)
   case o8=>(refine oQ rfl ?_;intro ρ w1 R hcon hfn hρ hb hp hR;have e19:ρ (.tmp 19)=_:=hp 2 19 rfl rfl;have f24:=hp 7 24 rfl rfl;clear hρ hp;unfold OpRun;go_simp;exact hR _ _ (Below.refl _ _) rfl)
   case o9=>(refine oQ rfl ?_;intro ρ w1 R hcon hfn hρ hb hp hR;have e25:ρ (.tmp 25)=_:=hp 8 25 rfl rfl;clear hρ hp;unfold OpRun;go_simp;exact hR _ _ (Below.refl _ _) rfl)
   case after=>
    intro u wn hb hf
    have e9:u 9=_:=hf 9 9 (by omega) rfl
    clear hf
    simp only [putAll,Act.put,List.setIfInBounds_toArray,List.set_cons_zero,List.set_cons_succ,List.drop_succ_cons,List.drop_zero,List.drop_nil]
    rw [e9]
    go_wp2_with fail
    go_meet
    exact ⟨by rw [H9.out],hb⟩
 case rest=>
  obtain ⟨rfl,hb2⟩:=hcut
  have zA2:=zA1.below hb2
  have yb2:=below_trans yb1 hb2
  clear zA1 yb1 hb2
  by_cases hret:same=true∧more=0
  ·obtain ⟨rfl,rfl⟩:=hret
   have HA:=hid (show moreAns c cm cz 0 mode l=(ranked l,false) by
    unfold moreAns
    rw [if_pos ⟨of_decide_eq_true HS.out.symm,rfl⟩])
   have RKl:=hid (fun w=>RK.out l l0 (by omega) w)
   go_wp2_with (go_at_call 85;(with_reducible refine (RKl.out _).mono ?_);rintro e w3 ⟨rfl,rfl⟩)
   go_ret2
   exact ⟨l,HL.out,ret2' (by rw [HA.out]) (by rw [HA.out]),yb2⟩
  ·have HA:=hid (show ∀a b:Int,∀ng:Bool,a=loM c more l→b=nearM cm more a→ng=negM cz more→moreAns c cm cz more mode l=if upR ng mode b (a+1)=true then (tellR ng (a+1),true) else (tellR ng a,true) from fun a b ng ha hb hn=>by
    subst ha;subst hb;subst hn
    unfold moreAns
    rw [if_neg (fun h=>hret ⟨by rw [HS.out];exact decide_eq_true h.1,h.2⟩)])
   obtain ⟨lo,hlo⟩: ∃a,a=loM c more l:=⟨_,rfl⟩
   have HLO:=hid hlo
   have hlo2:lo=if same=true∧more<0 then l-1 else l:=by
    rw [hlo];unfold loM
    have:(same=true∧more<0)↔((-9218868437227405312<l∧c l=0)∧more<0):=by rw [HS.out,decide_eq_true_eq]
    by_cases h:same=true∧more<0
    ·rw [if_pos h,if_pos (this.1 h)]
    ·rw [if_neg h,if_neg (fun h2=>h (this.2 h2))]
   have hl9:same=true→ -9218868437227405312<l:=fun h=>by
    rw [HS.out] at h;exact (of_decide_eq_true h).1
   have hlob: -9218868437227405312≤lo∧lo<9218868437227405312:=by
    rw [hlo2]
    split
    ·rename_i h;have:=hl9 h.1;omega
    ·omega
   clear hlo
   go_upto_region 3 with fail
   go_cut [30] (fun s30 wx=>s30=.bool false∧wx=wc)
   case first=>
    cases hsm:same
    ·subst hsm
     go_wp2_with fail
     go_meet
     exact ⟨rfl,rfl⟩
    ·have hmb:(more==0)=false:=beq_eq_false_iff_ne.2 (fun h=>hret ⟨hsm,h⟩)
     subst hsm
     go_wp2_with fail
     go_meet
     exact ⟨rfl,rfl⟩
   case rest=>
    obtain ⟨rfl,rfl⟩:=hcut
    go_upto_region 6 with fail
    obtain ⟨hi1,hhi1⟩: ∃h,h=l+1:=⟨_,rfl⟩
    go_cut [8,10,39] (fun s8 s10 s39 wx=>s8=.int .i64 l∧s10=.int .i64 (l+1)∧s39=.bool (same&&decide (more<0))∧wx=wc)
    case first=>
     cases hsm:same
     ·subst hsm
      go_wp2_with fail
      go_meet
      exact ⟨rfl,rfl,rfl,rfl⟩
     ·subst hsm
      go_wp2_with fail
      go_meet
      exact ⟨rfl,rfl,by rw [Bool.true_and],rfl⟩
    case rest=>
     obtain ⟨rfl,rfl,rfl,rfl⟩:=hcut
     go_upto_if 39 with fail
     go_cut [8,10] (fun s8 s10 wx=>s8=.int .i64 lo∧s10=.int .i64 (lo+1)∧wx=wc)
     case first=>
      by_cases hs2:same=true∧more<0
      ·rw [if_pos hs2] at hlo2
       obtain ⟨rfl,hm0⟩:=hs2
       have hb9:=hl9 rfl
       have HL2:=hid hlo2
       rw [show (true&&decide (more<0))=true by rw [Bool.true_and];exact decide_eq_true hm0]
       clear hlo2 hl9 hlob hret
       go_wp2_with fail
       go_meet
       exact ⟨by rw [HL2.out],by rw [HL2.out];congr 1;omega,rfl⟩
      ·rw [if_neg hs2] at hlo2
       have H39:(same&&decide (more<0))=false:=by
        cases same
        ·rfl
        ·rw [Bool.true_and];exact decide_eq_false (fun h=>hs2 ⟨rfl,h⟩)
       have HL2:=hid hlo2
       rw [H39]
       clear hlo2 hl9 hlob hret hs2 H39
       go_wp2_with fail
       go_meet
       exact ⟨by rw [HL2.out],by rw [HL2.out],rfl⟩
     case rest=>
      obtain ⟨rfl,rfl,rfl⟩:=hcut
      obtain ⟨ng,hng⟩: ∃b,b=negM cz more:=⟨_,rfl⟩
      have HNG:=hid hng
      clear hng hlo2 hl9 hret HS
      obtain ⟨q0,q1⟩:=hlob
      go_upto_region 8 with fail
      go_cut [11] (fun s11 wx=> ∃g,s11=.pointer (some ⟨g,0,none⟩)∧wx.cell? ⟨g,0,none⟩=some (.bool ng)∧Below wc.heap.size wc wx)
      case first=>
       obtain ⟨⟨j0,j1,-,-,-⟩,j2,-⟩:=id zA2
       by_cases hz1:cz<0
       ·have H5:=hid (show ng=true by rw [HNG.out];exact decide_eq_true (.inl hz1))
        go_wp2_with (go_at_call 35;(with_reducible refine (QCz.out _ (HQ.out.below yb2)).mono ?_);rintro e w4 ⟨rfl,hb4⟩)
        go_meet
        exact ⟨_,rfl,by rw [World.cell?_alloc_at (hn:=rfl),H5.out];rfl,below_trans hb4 (below_alloc _ _)⟩
       ·have hz2:decide (cz<0)=false:=decide_eq_false hz1
        by_cases hz3:cz=0
        ·have H5:=hid (show ng=decide (more<0) by rw [HNG.out,negM,decide_eq_decide];omega)
         have hz4:(cz==0)=true:=beq_iff_eq.2 hz3
         clear hz1 hz3
         go_wp2_with (go_at_call 35;(first
          |((with_reducible refine (QCz.out _ (HQ.out.below yb2)).mono ?_);rintro e w4 ⟨rfl,hb4⟩;obtain ⟨⟨i0,i1,-,-,-⟩,i2,-⟩:=zA2.below hb4;have yb4:=below_trans yb2 hb4)
          |((with_reducible refine (QCz.out _ (HQ.out.below yb4)).mono ?_);rintro e w5 ⟨rfl,hb5⟩)))
         go_meet
         exact ⟨_,rfl,by rw [World.cell?_alloc_at (hn:=rfl),H5.out];rfl,below_trans (below_trans hb4 hb5) (below_alloc _ _)⟩
        ·have H5:=hid (show ng=false by rw [HNG.out,negM,decide_eq_false_iff_not];omega)
         have hz4:(cz==0)=false:=beq_eq_false_iff_ne.2 hz3
         clear hz1 hz3
         go_wp2_with (go_at_call 35;(first
          |((with_reducible refine (QCz.out _ (HQ.out.below yb2)).mono ?_);rintro e w4 ⟨rfl,hb4⟩;obtain ⟨⟨i0,i1,-,-,-⟩,i2,-⟩:=zA2.below hb4;have yb4:=below_trans yb2 hb4)
          |((with_reducible refine (QCz.out _ (HQ.out.below yb4)).mono ?_);rintro e w5 ⟨rfl,hb5⟩)))
         go_meet
         exact ⟨_,rfl,by rw [World.cell?_alloc_at (hn:=rfl),H5.out];rfl,below_trans (below_trans hb4 hb5) (below_alloc _ _)⟩
      case rest=>
       obtain ⟨g,rfl,hg,hb3⟩:=hcut
       have zA3:=zA2.below hb3
       have yb3:=below_trans yb2 hb3
       clear zA2 yb2 hb3 QCz QCr
       have RV1:=hid (fun w=>RV.out lo q0 (by omega) w)
       have RV2:=hid (fun w=>RV.out (lo+1) (by omega) (by omega) w)
       have QA2:=hid (fun v u w h1 h2=>QA.out v u lo (lo+1) w h1 h2)
       have QC2:=hid (fun v u w h1 h2=>by
        have:=qcmp_any v u (shD D 1) (addD (rkD lo) (rkD (lo+1))) (A+400000) 400000 (max 1200 1200+max 1100 1100+1) (max 1100 1100) w h1 h2 (by omega) (by omega) (by omega) (by omega)
        rwa [←HCM.out lo] at this)
       obtain ⟨ml,hml⟩: ∃z,z=cm lo:=⟨_,rfl⟩
       rw [←hml] at QC2
       have HML:=hid hml
       clear hml
       go_upto_region 10 with fail
       go_cut [13] (fun s13 wx=>s13=.int .i64 ml∧Below wc.heap.size wc wx)
       case first=>
        obtain ⟨⟨j0,j1,-,-,-⟩,j2,-⟩:=id zA3
        generalize rkD lo=K1 at *
        generalize rkD (lo+1)=K2 at *
        go_wp2_with (first
         |(go_at_call 87;(with_reducible refine (QS.out _ (HQ.out.below yb3)).mono ?_);rintro e w4 ⟨v4,rfl,hq4,hb4⟩)
         |(go_at_call 84;(first
          |((with_reducible refine (RV1.out _).mono ?_);rintro e w5 ⟨v5,rfl,hq5,hb5⟩)
          |((with_reducible refine (RV2.out _).mono ?_);rintro e w6 ⟨v6,rfl,hq6,hb6⟩)))
         |(go_at_call 40;(with_reducible refine (QA2.out _ _ _ (hq5.below hb6) hq6).mono ?_);rintro e w7 ⟨v7,rfl,hq7,hb7⟩)
         |(go_at_call 35;(with_reducible refine (QC2.out _ _ _ (((hq4.below hb5).below hb6).below hb7) hq7).mono ?_);rintro e w8 ⟨rfl,hb8⟩))
        go_meet
        exact ⟨rfl,below_trans hb4 (below_trans hb5 (below_trans hb6 (below_trans hb7 hb8)))⟩
       case rest=>
        obtain ⟨rfl,hb4⟩:=hcut
        have hg4:=(hb4.cell (World.block_lt_of_cell? _ _ hg)).trans hg
        have yb4:=below_trans yb3 hb4
        clear zA3 hg yb3 hb4 QS QA RV1 RV2 QA2 QC2 RV RK LR HQ h0
        obtain ⟨near,hnear⟩: ∃z,z=if ml=0 then more else ml:=⟨_,rfl⟩
        have HNR:=hid hnear
        have hn0:near=nearM cm more lo:=by rw [hnear,HML.out];rfl
        have HN0:=hid hn0
        clear hnear hn0
        go_upto_if 67 with fail
        go_cut [13] (fun s13 wx=>s13=.int .i64 near∧wx=wc)
        case first=>
         by_cases hz:ml=0
         ·have hz2:(ml==0)=true:=beq_iff_eq.2 hz
          have H5:=hid (show near=more by rw [HNR.out,if_pos hz])
          clear hz
          go_wp2_with fail
          go_meet
          exact ⟨by rw [H5.out],rfl⟩
         ·have hz2:(ml==0)=false:=beq_eq_false_iff_ne.2 hz
          have H5:=hid (show near=ml by rw [HNR.out,if_neg hz])
          clear hz
          go_wp2_with fail
          go_meet
          exact ⟨by rw [H5.out],rfl⟩
        case rest=>
         obtain ⟨rfl,rfl⟩:=hcut
         clear HNR
         obtain ⟨u1,hu1⟩: ∃b:Bool,b=decide (mode=1∨(mode=3∧ng=true)∨((mode=0∨mode=4)∧0<near)):=⟨_,rfl⟩
         have HU1:=hid hu1
         clear hu1
         go_upto_region 13 with fail
         go_cut [14] (fun s14 wx=>s14=.bool u1∧wx=wc)
         case first=>
          by_cases m1:mode=1
          ·subst m1
           have H5:=hid (show u1=true by rw [HU1.out];simp)
           go_wp2_with fail
           go_meet
           exact ⟨by rw [H5.out],rfl⟩
          have b1:(mode==1)=false:=beq_eq_false_iff_ne.2 m1
          by_cases m3:mode=3
          ·subst m3
           have H5:=hid (show u1=ng by rw [HU1.out];simp)
           cases hng:ng
           all_goals
            rw [hng] at hg4 H5
            go_wp2_with fail
            go_meet
            exact ⟨by rw [H5.out],rfl⟩
          have b3:(mode==3)=false:=beq_eq_false_iff_ne.2 m3
          by_cases m0:mode=0
          ·subst m0
           have H5:=hid (show u1=decide (0<near) by rw [HU1.out];simp)
           go_wp2_with fail
           go_meet
           exact ⟨by rw [H5.out],rfl⟩
          have b0:(mode==0)=false:=beq_eq_false_iff_ne.2 m0
          by_cases m4:mode=4
          ·subst m4
           have H5:=hid (show u1=decide (0<near) by rw [HU1.out];simp)
           go_wp2_with fail
           go_meet
           exact ⟨by rw [H5.out],rfl⟩
          have b4:(mode==4)=false:=beq_eq_false_iff_ne.2 m4
          have H5:=hid (show u1=false by rw [HU1.out];simp [m0,m1,m3,m4])
          clear m0 m1 m3 m4
          go_wp2_with fail
          go_meet
          exact ⟨by rw [H5.out],rfl⟩
         case rest=>
          obtain ⟨rfl,rfl⟩:=hcut
          obtain ⟨u2,hu2⟩: ∃b:Bool,b=if near=0∧mode=0 then decide ((lo+1)%2=0) else u1:=⟨_,rfl⟩
          have HU2:=hid hu2
          obtain ⟨u3,hu3⟩: ∃b:Bool,b=if near=0∧mode=4 then !ng else u2:=⟨_,rfl⟩
          have HU3:=hid hu3
          clear hu2 hu3
          go_upto_region 14 with fail
          go_cut [95] (fun s wx=>s=.bool ((near==0)&&(mode==0))∧wx=wc)
          case first=>
           by_cases hz:near=0
           ·have hz2:(near==0)=true:=beq_iff_eq.2 hz
            clear hz
            go_wp2_with fail
            go_meet
            exact ⟨by rw [hz2,Bool.true_and],rfl⟩
           ·have hz2:(near==0)=false:=beq_eq_false_iff_ne.2 hz
            clear hz
            go_wp2_with fail
            go_meet
            exact ⟨by rw [hz2];rfl,rfl⟩
          case rest=>
           obtain ⟨rfl,rfl⟩:=hcut
           go_upto_if 95 with fail
           go_cut [14] (fun s14 wx=>s14=.bool u2∧wx=wc)
           case first=>
            cases hb9:((near==0)&&(mode==0))
            ·have H5:=hid (show u2=u1 by
              rw [HU2.out,if_neg]
              intro h
              rw [beq_iff_eq.2 h.1,beq_iff_eq.2 h.2] at hb9
              cases hb9)
             clear hb9
             go_wp2_with fail
             go_meet
             exact ⟨by rw [H5.out],rfl⟩
            ·have H5:=hid (show u2=decide ((lo+1)%2=0) by
              rw [Bool.and_eq_true,beq_iff_eq,beq_iff_eq] at hb9
              rw [HU2.out,if_pos hb9])
             clear hb9
             obtain ⟨ta,tc,-,e2,e3,e4,e5⟩:=tdiv2 (lo+1)
             have H6:=hid (show (tc==0)=decide ((lo+1)%2=0) by rw [Bool.eq_iff_iff,beq_iff_eq,decide_eq_true_eq];omega)
             clear e3 e4 e5
             go_wp2_with fail
             go_meet
             exact ⟨by rw [H5.out];rw [←H6.out],rfl⟩
           case rest=>
            obtain ⟨rfl,rfl⟩:=hcut
            go_upto_region 16 with fail
            go_cut [104] (fun s wx=>s=.bool ((near==0)&&(mode==4))∧wx=wc)
            case first=>
             by_cases hz:near=0
             ·have hz2:(near==0)=true:=beq_iff_eq.2 hz
              clear hz
              go_wp2_with fail
              go_meet
              exact ⟨by rw [hz2,Bool.true_and],rfl⟩
             ·have hz2:(near==0)=false:=beq_eq_false_iff_ne.2 hz
              clear hz
              go_wp2_with fail
              go_meet
              exact ⟨by rw [hz2];rfl,rfl⟩
            case rest=>
             obtain ⟨rfl,rfl⟩:=hcut
             go_upto_if 104 with fail
             go_cut [14] (fun s14 wx=>s14=.bool u3∧wx=wc)
             case first=>
              cases hb9:((near==0)&&(mode==4))
              ·have H5:=hid (show u3=u2 by
                rw [HU3.out,if_neg]
                intro h
                rw [beq_iff_eq.2 h.1,beq_iff_eq.2 h.2] at hb9
                cases hb9)
               clear hb9
               go_wp2_with fail
               go_meet
               exact ⟨by rw [H5.out],rfl⟩
              ·have H5:=hid (show u3=!ng by
                rw [Bool.and_eq_true,beq_iff_eq,beq_iff_eq] at hb9
                rw [HU3.out,if_pos hb9])
               clear hb9
               skip
               go_wp2_with fail
               go_meet
               exact ⟨by rw [H5.out],rfl⟩
             case rest=>
              obtain ⟨rfl,rfl⟩:=hcut
              have HUP:=hid (show u3=upR ng mode near (lo+1) by
               rw [HU3.out,HU2.out,HU1.out]
               unfold upR
               by_cases k0:near=0∧mode=0
               ·rw [if_pos k0,if_neg (fun h=>by omega),if_pos k0]
               ·rw [if_neg k0,if_neg k0])
              have HAF:=hid (HA.out lo near ng HLO.out HN0.out HNG.out)
              have TL1:=hid (fun w h=>tell_any ng g (lo+1) (by omega) (by omega) w h)
              have TL2:=hid (fun w h=>tell_any ng g lo q0 (by omega) w h)
              clear HU1 HU2 HU3 HA HLO HN0 HNG HC HCM HML
              cases hu:u3
              ·have HF:=hid (show moreAns c cm cz more mode l=(tellR ng lo,true) by rw [HAF.out,←HUP.out,hu];rfl)
               subst hu
               clear HAF HUP TL1
               go_wp2_with (go_at_call 86;(with_reducible refine (TL2.out _ hg4).mono ?_);rintro e w9 ⟨rfl,rfl⟩)
               go_ret2
               exact ⟨l,HL.out,ret2' (by rw [HF.out]) (by rw [HF.out]),yb4⟩
              ·have HF:=hid (show moreAns c cm cz more mode l=(tellR ng (lo+1),true) by rw [HAF.out,←HUP.out,hu];rfl)
               subst hu
               clear HAF HUP TL2
               go_wp2_with (go_at_call 86;(with_reducible refine (TL1.out _ hg4).mono ?_);rintro e w9 ⟨rfl,rfl⟩)
               go_ret2
               exact ⟨l,HL.out,ret2' (by rw [HF.out]) (by rw [HF.out]),yb4⟩
end Go.Proofs.YtehhegbkahnhgaaGreatDoor
namespace Go.Ulp
open Go.RowKit
theorem cR_eq (x e r:Int) (s:Nat) (hs:0≤e+1074+s):cmpD (rkD r) (nrm x e)=cR s (x*pw (e+1074+s).toNat) r:=by
 unfold rkD cR rT
 rw [←cmp_nrm (rvs r) (-1074) x e (-1074-s) (.inl (by omega)) (.inl (by omega))]
 unfold sc
 rw [show (-1074-(-1074-(s:Int))).toNat=s by omega,show (e-(-1074-(s:Int))).toNat=(e+1074+s).toNat by omega]
theorem cM_eq (x e r:Int) (s:Nat) (hs:0≤e+1074+s):cmpD (shD (nrm x e) 1) (addD (rkD r) (rkD (r+1)))=cM s (x*pw (e+1074+s).toNat) r:=by
 unfold rkD cM rT
 rw [←nrm_shift,←nrm_add (rvs r) (-1074) (rvs (r+1)) (-1074) (-1074) (.inl (Int.le_refl _)) (.inl (Int.le_refl _)),sc_self,sc_self,
  ←cmp_nrm x (e+1) (rvs r+rvs (r+1)) (-1074) (-1074-s) (.inl (by omega)) (.inl (by omega))]
 unfold sc
 rw [show (-1074-(-1074-(s:Int))).toNat=s by omega,show (e+1-(-1074-(s:Int))).toNat=1+(e+1074+s).toNat by omega,pw_add,Int.add_mul]
 congr 1
 rw [show pw 1=2 by decide,←Int.mul_assoc,Int.mul_comm x 2,Int.mul_assoc]
theorem cz_eq (x e:Int) (E:Nat):cmpD (nrm x e) (0,0)=cmpI (x*pw E) 0:=by
 rw [cmpD_zero,sgn_nrm]
 exact (sgn_pw x E).symm
theorem rounded_num (neg:Bool) (M:Nat) (e side mode l:Int) (m0:0≤mode) (m1:mode≤4) (hz:M=0→neg=false) (hside:side= -1∨side=0∨side=1)
 (hl:IsLow (fun r=>cmpD (rkD r) (nrm (sg neg M) e)) l):
 moreAns (fun r=>cmpD (rkD r) (nrm (sg neg M) e)) (fun r=>cmpD (shD (nrm (sg neg M) e) 1) (addD (rkD r) (rkD (r+1)))) (cmpD (nrm (sg neg M) e) (0,0)) side mode l
  =(numX (besNeg neg M side) (besM neg M side) (besE M e side) mode,numC (besNeg neg M side) (besM neg M side) (besE M e side) mode):=by
 obtain ⟨s,hs1,hs2⟩: ∃s:Nat,64≤e+1074+s∧930≤s:=⟨(-e).toNat+2000,by omega,by omega⟩
 have e0:sg neg (M:Int)*pw (e+1074+s).toNat=sg neg ((M*2^(e+1074+s).toNat:Nat):Int):=by
  rw [pw_nat,Int.natCast_mul];unfold sg;cases neg<;>simp [Int.neg_mul]
 have e1:(fun r=>cmpD (rkD r) (nrm (sg neg M) e))=cR s (sg neg ((M*2^(e+1074+s).toNat:Nat):Int)):=funext fun r=>by
  rw [cR_eq _ _ _ s (by omega),e0]
 have e2:(fun r=>cmpD (shD (nrm (sg neg M) e) 1) (addD (rkD r) (rkD (r+1))))=cM s (sg neg ((M*2^(e+1074+s).toNat:Nat):Int)):=funext fun r=>by
  rw [cM_eq _ _ _ s (by omega),e0]
 have e3:cmpD (nrm (sg neg M) e) (0,0)=cmpI (sg neg ((M*2^(e+1074+s).toNat:Nat):Int)) 0:=by
  rw [cz_eq _ _ (e+1074+s).toNat,e0]
 rw [e1] at hl
 rw [e1,e2,e3]
 exact beside_all neg M e side mode l s m0 m1 hz hs1 hs2 hside hl
end Go.Ulp
namespace Go.Proofs.YtehhegbkahnhgaaGreatDoor
open Go.RowKit Go.Ulp
set_option maxHeartbeats 1000000
set_option maxRecDepth 100000
end Go.Proofs.YtehhegbkahnhgaaGreatDoor
