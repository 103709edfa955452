/- SeriesExp: what the proof leans on, part 20 (Sf7 Se0 Se1 Se2). -/
import Derived.Test.YtehhegbkahnhgaaDoorKSeriesExp3
import Derived.Test.YtehhegbkahnhgaaDoorKSeriesExp8
import Derived.Test.YtehhegbkahnhgaaDoorKSeriesExp13
import Derived.Test.YtehhegbkahnhgaaDoorKSeriesExp14
import Derived.Test.YtehhegbkahnhgaaDoorKSeriesExp19
set_option linter.unusedVariables false
set_option linter.unusedSimpArgs false
namespace Go.Ulp
open Go.RowKit
def XF (neg:Bool) (m:Nat) (x0:Int) (pl:Nat) (D:Dy):Prop:=(m=0∧D=nrm 1 0)∨(0<m∧ ∃z:Nat,IsFl (dyQ m x0) neg pl z∧D=nrm (z:Int) (-(pl:Int)))
def RetXF (ti:TypeId) (w:World) (neg:Bool) (m:Nat) (x0:Int) (pl:Nat) (en:Ending) (w':World):Prop:= ∃D,XF neg m x0 pl D∧RetQD ti w D 20000 2000 en w'
end Go.Ulp
namespace Go.Proofs.YtehhegbkahnhgaaDoor
open Go.RowKit Go.Ulp
set_option maxHeartbeats 4000000
set_option maxRecDepth 100000
theorem ent_xf1 (p:Int) (cp:Value) (w:World):Sem.run Tryd.prog (callFunc 37 #[.int .i64 p,cp]) w=.ok (.enter 37 #[.int .i64 p,cp]) w:=by
 simp [callFunc,go_sem,Tryd.func37,Tryd.f37]
theorem expC_any (neg:Bool) (m:Nat) (x0:Int) (t g:Nat) (a:Option Addr) (l c:Nat) (n:Int) (w:World) (hz:QL 34 w g neg (.slice a l c) n) (hq:QD 3 w (nrm (sg neg (m:Int)) x0) 400000 200000 (.agg #[.bool neg,.slice a l c,.int .i64 n])) (hm:0<m) (h8:dyQ m x0≤((800:Nat):Rat)) (t0:20≤t) (t1:t≤3000000000):
 Calls Tryd.prog 37 #[.int .i64 (t:Int),.pointer (some ⟨g,0,none⟩)] w (RetGI 3 w (GoodX m x0 neg) t):=by
 have EB:=hid (fun w h=>eBounds_any neg m x0 t (.agg #[.bool neg,.slice a l c,.int .i64 n]) w h hm h8 t0 t1)
 have yb0:=below_alloc w (.cells #[.bool false,.slice none 0 0,.bool false,.slice none 0 0] 64)
 have zR:BC 64 (w.alloc (.cells #[.bool false,.slice none 0 0,.bool false,.slice none 0 0] 64)) w.heap.size false (.slice none 0 0) false (.slice none 0 0):=BC.made rfl
 obtain ⟨⟨j0,j1,-⟩,j2,-⟩:=hz.below yb0
 have HQ:=hid (hq.below yb0)
 have HR:=hid (show ∀(y:PP) en w',GoodR m x0 neg t y→RetPI 3 w ((y.1:Int),(y.2:Int)) en w'→RetGI 3 w (GoodX m x0 neg) t en w' from fun y en w' h1 h2=>⟨_,⟨y,h1,rfl⟩,h2⟩)
 clear hz hq
 go_enter Tryd.func37,Tryd.ntmps37
 go_wp2_with (go_at_call 38;(with_reducible refine (EB.out _ HQ.out).mono ?_);rintro en w2 ⟨y,hgy,v2,rfl,⟨a2,c2,b2,d2,rfl,m1,m2⟩,hb2⟩;have zR2:=zR.below hb2;obtain ⟨⟨k0,k1,k2,k3⟩,f0,f1,f2,f3,s8⟩:=id zR2;have HG:=hid hgy;clear hgy)
 refine bodyPost_ret (by simp [results,Tryd.results37,go_sem,k0,k1,k2,k3];try rfl) rfl ?_
 exact HR.out y _ _ HG.out ⟨_,rfl,(PZ.mk (m1.pu4 s8 (by decide) _ _ _ _) (m2.pu4 s8 (by decide) _ _ _ _)).pi,below_pu4 (below_trans yb0 hb2) (Nat.le_refl _) _ _ _ _⟩
theorem q_one {w:World} {a:Option Addr} {c:Nat} (h:Nz 3 w a c (zl 1)):QD 3 w (nrm 1 0) 1 0 (.agg #[.bool (zneg 1),.slice a (zl 1).length c,.int .i64 0]):=⟨1,0,a,c,rfl,h,rfl,by decide,Nat.le_refl _⟩
theorem xf_zero (neg:Bool) (m:Nat) (x0:Int) (pl:Nat) (v:Value) (w:World) (hv:QD 3 w (nrm (sg neg (m:Int)) x0) 400000 200000 v) (hm:m=0):
 Calls Tryd.prog 14 #[v,.int .i64 (pl:Int)] w (RetXF 3 w neg m x0 pl):=by
 have QC:=hid (fun v w h=>qcmp_any v _ (nrm (sg neg (m:Int)) x0) (0,0) 400000 200000 1 0 w h (QD.zero (by omega)) (by omega) (by omega) (by omega) (by omega))
 rw [show cmpD (nrm (sg neg (m:Int)) x0) (0,0)=0 by rw [cmpD_zero,(nrm_zero_iff _ _).2 (by rw [hm];cases neg<;>rfl)];rfl] at QC
 have ON:=hid (fun w=>zND 1 (by omega) (by omega) w)
 have HX:=hid (show XF neg m x0 pl (nrm 1 0) from .inl ⟨hm,rfl⟩)
 have HR:=hid (show ∀en w',RetQD 3 w (nrm 1 0) 1 0 en w'→RetXF 3 w neg m x0 pl en w' from fun en w' h=>⟨_,HX.out,h.weak (by omega) (by omega)⟩)
 obtain ⟨X,n,a,c,rfl,-⟩:=id hv
 have HV:=hid (fun w' (hb:Below w.heap.size w w')=>hv.below hb)
 have zA:QL 34 ((w.alloc (.cells #[.bool (zneg X),.slice a (zl X).length c,.int .i64 (n:Int)] 34)).alloc (.cells #[.bool false,.slice none 0 0,.int .i64 0] 34)) w.heap.size (zneg X) (.slice a (zl X).length c) (n:Int):=(QL.made rfl).alloc _
 have zR:QL 34 ((w.alloc (.cells #[.bool (zneg X),.slice a (zl X).length c,.int .i64 (n:Int)] 34)).alloc (.cells #[.bool false,.slice none 0 0,.int .i64 0] 34)) (w.heap.size+1) false (.slice none 0 0) 0:=QL.made (by first|omega|(simp;done)|(simp;omega))
 have yb0:Below w.heap.size w ((w.alloc (.cells #[.bool (zneg X),.slice a (zl X).length c,.int .i64 (n:Int)] 34)).alloc (.cells #[.bool false,.slice none 0 0,.int .i64 0] 34)):=by (repeat' first|(with_reducible first|assumption|apply bR|apply bA|apply bN|apply bD|apply bL|apply bS)|refine bT ?_ (by assumption)|go_size)
 clear hv hm HX
 go_enter Tryd.func14,Tryd.ntmps14
 go_upto_region 1 with fail
 obtain ⟨⟨j0,j1,-⟩,j2,-⟩:=id zA
 go_wp2_with (first
  |(go_at_call 7;(with_reducible refine (QC.out _ _ (HV.out _ yb0)).mono ?_);rintro en w2 ⟨rfl,hb2⟩)
  |(go_at_call 11;(with_reducible refine (ON.out _).mono ?_);rintro en w3 ⟨v3,rfl,⟨a3,c3,rfl,m3⟩,hb3⟩;have zR2:=(zR.below hb2).below hb3;obtain ⟨⟨k0,k1,f0,f1,hs2⟩,k2,f2⟩:=id zR2))
 refine bodyPost_ret (by simp [results,Tryd.results14,go_sem,k0,k1,k2];try rfl) rfl ?_
 exact HR.out _ _ ⟨_,rfl,q_one (m3.set3Q zR2 (by decide) _ _ _),Go.Ulp.Below.put3 (below_trans (below_trans yb0 hb2) hb3) (by omega) _ _ _⟩
theorem xf_far (neg:Bool) (m:Nat) (x0:Int) (pl:Nat) (v:Value) (w:World) (hv:QD 3 w (nrm (sg neg (m:Int)) x0) 400000 200000 v) (hm:0<m) (hm40:m<2^1280) (he: -10000≤x0) (h8:dyQ m x0≤((800:Nat):Rat)) (hpl:pl≤1300) (hfar: ¬cmpD (nrm (m:Int) x0) (nrm 1 (-(pl:Int)-4))<0):
 Calls Tryd.prog 14 #[v,.int .i64 (pl:Int)] w (RetXF 3 w neg m x0 pl):=by
 obtain ⟨X,n,a,c,rfl,h0,hX,hXA,hn⟩:=id hv
 have hsg:=sign_of X n m x0 neg hX hm
 rw [hsg] at hv ⊢
 obtain ⟨la,hla⟩: ∃l,l=(zl X).length:=⟨_,rfl⟩
 rw [←hla] at hv ⊢
 have HV:=hid (fun w' (hb:Below w.heap.size w w')=>hv.below hb)
 have QC:=hid (fun v w h=>qcmp_any v _ (nrm (sg neg (m:Int)) x0) (0,0) 400000 200000 1 0 w h (QD.zero (by omega)) (by omega) (by omega) (by omega) (by omega))
 have hne0:sg neg (m:Int)≠0:=by cases neg<;>simp [sg]<;>omega
 have hcz:cmpD (nrm (sg neg (m:Int)) x0) (0,0)≠0:=by
  rw [cmpD_zero]
  intro h
  have h1:=(cmpI_eq_zero _ _).1 h
  exact hne0 ((nrm_zero_iff _ _).1 h1)
 obtain ⟨cz,hczn⟩: ∃z,z=cmpD (nrm (sg neg (m:Int)) x0) (0,0):=⟨_,rfl⟩
 rw [←hczn] at QC hcz
 have hczb:(cz==0)=false:=beq_eq_false_iff_ne.2 hcz
 have zA:QL 34 ((w.alloc (.cells #[.bool neg,.slice a la c,.int .i64 (n:Int)] 34)).alloc (.cells #[.bool false,.slice none 0 0,.int .i64 0] 34)) w.heap.size neg (.slice a la c) (n:Int):=(QL.made rfl).alloc _
 have zR:QL 34 ((w.alloc (.cells #[.bool neg,.slice a la c,.int .i64 (n:Int)] 34)).alloc (.cells #[.bool false,.slice none 0 0,.int .i64 0] 34)) (w.heap.size+1) false (.slice none 0 0) 0:=QL.made (by first|omega|(simp;done)|(simp;omega))
 have yb0:Below w.heap.size w ((w.alloc (.cells #[.bool neg,.slice a la c,.int .i64 (n:Int)] 34)).alloc (.cells #[.bool false,.slice none 0 0,.int .i64 0] 34)):=by (repeat' first|(with_reducible first|assumption|apply bR|apply bA|apply bN|apply bD|apply bL|apply bS)|refine bT ?_ (by assumption)|go_size)
 have ON:=hid (fun w=>zND 1 (by omega) (by omega) w)
 have QA:=hid (fun v w h=>qabs_any v (nrm (sg neg (m:Int)) x0) 400000 200000 w h (by omega) (by omega))
 rw [show absD (nrm (sg neg (m:Int)) x0)=nrm (m:Int) x0 by rw [←nrm_natAbs,sg_abs,Int.natAbs_natCast]] at QA
 have QM:=hid (fun a c w (h:Nz 3 w a c (zl 1))=>qmake_any a c 1 (-(pl:Int)-4) 1 2000 w h (by decide) (by omega) (by omega) (by omega))
 have QC2:=hid (fun v u w h k=>qcmp_any v u (nrm (m:Int) x0) (nrm 1 (-(pl:Int)-4)) 400000 200000 2001 2000 w h k (by omega) (by omega) (by omega) (by omega))
 have wN:IntKind.i64.wrap (-(pl:Int))= -(pl:Int):=IntWalk.i64_in _ (by omega)
 have wN4:IntKind.i64.wrap (-(pl:Int)-4)= -(pl:Int)-4:=IntWalk.i64_in _ (by omega)
 clear h0 hX hXA hn hsg hla hczn hcz hne0 hv
 obtain ⟨cm,hcm⟩: ∃z,z=cmpD (nrm (m:Int) x0) (nrm 1 (-(pl:Int)-4)):=⟨_,rfl⟩
 rw [←hcm] at QC2 hfar
 clear hcm
 have FL:=hid (fun w' (hz:QL 34 w' w.heap.size neg (.slice a la c) (n:Int)) (hb:Below w.heap.size w w')=>floored_any pl 37 (.pointer (some ⟨w.heap.size,0,none⟩)) (GoodX m x0 neg) w' hpl (fun p w=>ent_xf1 p _ w) (goodX_ok m x0 neg pl 800 hm hm40 he rfl h8 hpl) (fun t w'' t0 t1 hb2=>expC_any neg m x0 t w.heap.size a la c (n:Int) w'' (QL.below hz hb2) (HV.out w'' (below_trans hb hb2)) hm h8 t0 t1))
 have HR:=hid (show ∀t x en w',GoodX m x0 neg t x→fo x.1 t pl=fo x.2 t pl→RetQD 3 w (nrm (fo x.1 t pl) (-(pl:Int))) 9300 1300 en w'→RetXF 3 w neg m x0 pl en w' from fun t x en w' h1 h2 h3=>by
  obtain ⟨z,hz1,hz2⟩:=goodX_fl m x0 neg pl t x h1 h2
  rw [hz2] at h3
  exact ⟨_,.inr ⟨hm,z,hz1,rfl⟩,h3.weak (by omega) (by omega)⟩)
 have hmf: ∀fn first cap w,(Instr.makeFunc fn first cap).run Tryd.prog w=.ok (.func fn first cap) w:=fun _ _ _ _=>rfl
 clear hm hm40 he h8
 go_enter Tryd.func14,Tryd.ntmps14
 go_upto_region 1 with fail
 refine wp_worldZ (fun WW=>Below w.heap.size w WW∧QL 34 WW w.heap.size neg (.slice a la c) (n:Int)∧QL 34 WW (w.heap.size+1) false (.slice none 0 0) 0) ⟨yb0,zA,zR⟩ ?_
 clear yb0 zA zR
 intro W1 ⟨yb1,zA,zR⟩
 obtain ⟨⟨j0,j1,-⟩,j2,-⟩:=id zA
 go_upto_region 3 with (go_at_call 7;(with_reducible refine (QC.out _ _ (HV.out _ yb1)).mono ?_);rintro en w2 ⟨rfl,hb2⟩)
 have yb2:=below_trans yb1 hb2
 have zA2:=zA.below hb2
 have zR2:=zR.below hb2
 clear yb1 zA zR hb2 j0 j1 j2 QC
 obtain ⟨⟨j0,j1,-⟩,j2,-⟩:=id zA2
 go_upto_region 7 with (first
  |(go_at_call 8;(with_reducible refine (QA.out _ _ (HV.out _ yb2)).mono ?_);rintro en w3 ⟨v3,rfl,hq3,hb3⟩)
  |(go_at_call 11;(with_reducible refine (ON.out _).mono ?_);rintro en w4 ⟨v4,rfl,⟨a4,c4,rfl,m4⟩,hb4⟩)
  |(go_at_call 10;(with_reducible refine (QM.out _ _ _ m4).mono ?_);rintro en w5 ⟨v5,rfl,hq5,hb5⟩)
  |(go_at_call 7;(with_reducible refine (QC2.out _ _ _ ((hq3.below hb4).below hb5) hq5).mono ?_);rintro en w6 ⟨rfl,hb6⟩))
 have hb36:=below_trans (below_trans (below_trans hb3 hb4) hb5) hb6
 have yb3:=below_trans yb2 hb36
 have zA3:=((((zA2.below hb3).below hb4).below hb5).below hb6)
 have zR3:=((((zR2.below hb3).below hb4).below hb5).below hb6)
 clear yb2 zA2 zR2 hb3 hb4 hb5 hb6 hb36 hq3 hq5 m4 j0 j1 j2 QA QM QC2
 go_wp2_with (go_at_call 36;(with_reducible refine (FL.out _ zA3 yb3).mono ?_);rintro en w7 ⟨t,x,hgx,hfx,v7,rfl,⟨X7,n7,a7,c7,rfl,m7,hD7,hX7,hn7⟩,hb7⟩;have HD7:=hid hD7;have HGX:=hid hgx;have HFX:=hid hfx;clear hD7 hgx hfx;have zR4:=zR3.below hb7;obtain ⟨⟨k0,k1,f0,f1,hs2⟩,k2,f2⟩:=id zR4)
 refine bodyPost_ret (by simp [results,Tryd.results14,go_sem,k0,k1,k2];try rfl) rfl ?_
 exact HR.out t x _ _ HGX.out HFX.out ⟨_,rfl,⟨X7,n7,a7,c7,rfl,m7.set3Q zR4 (by decide) _ _ _,HD7.out,hX7,hn7⟩,Go.Ulp.Below.put3 (below_trans yb3 hb7) (by omega) _ _ _⟩
theorem xf_near (neg:Bool) (m:Nat) (x0:Int) (pl:Nat) (v:Value) (w:World) (hv:QD 3 w (nrm (sg neg (m:Int)) x0) 400000 200000 v) (hm:0<m) (hpl:pl≤1300) (hnear:cmpD (nrm (m:Int) x0) (nrm 1 (-(pl:Int)-4))<0):
 Calls Tryd.prog 14 #[v,.int .i64 (pl:Int)] w (RetXF 3 w neg m x0 pl):=by
 have HF:=hid (near_one (dyQ_pos hm x0) (near_of hnear) neg)
 obtain ⟨X,n,a,c,rfl,h0,hX,hXA,hn⟩:=id hv
 have hsg:=sign_of X n m x0 neg hX hm
 rw [hsg] at hv ⊢
 obtain ⟨la,hla⟩: ∃l,l=(zl X).length:=⟨_,rfl⟩
 rw [←hla] at hv ⊢
 have HV:=hid (fun w' (hb:Below w.heap.size w w')=>hv.below hb)
 have QC:=hid (fun v w h=>qcmp_any v _ (nrm (sg neg (m:Int)) x0) (0,0) 400000 200000 1 0 w h (QD.zero (by omega)) (by omega) (by omega) (by omega) (by omega))
 have hne0:sg neg (m:Int)≠0:=by cases neg<;>simp [sg]<;>omega
 have hcz:cmpD (nrm (sg neg (m:Int)) x0) (0,0)≠0:=by
  rw [cmpD_zero]
  intro h
  have h1:=(cmpI_eq_zero _ _).1 h
  exact hne0 ((nrm_zero_iff _ _).1 h1)
 obtain ⟨cz,hczn⟩: ∃z,z=cmpD (nrm (sg neg (m:Int)) x0) (0,0):=⟨_,rfl⟩
 rw [←hczn] at QC hcz
 have hczb:(cz==0)=false:=beq_eq_false_iff_ne.2 hcz
 have zA:QL 34 ((w.alloc (.cells #[.bool neg,.slice a la c,.int .i64 (n:Int)] 34)).alloc (.cells #[.bool false,.slice none 0 0,.int .i64 0] 34)) w.heap.size neg (.slice a la c) (n:Int):=(QL.made rfl).alloc _
 have zR:QL 34 ((w.alloc (.cells #[.bool neg,.slice a la c,.int .i64 (n:Int)] 34)).alloc (.cells #[.bool false,.slice none 0 0,.int .i64 0] 34)) (w.heap.size+1) false (.slice none 0 0) 0:=QL.made (by first|omega|(simp;done)|(simp;omega))
 have yb0:Below w.heap.size w ((w.alloc (.cells #[.bool neg,.slice a la c,.int .i64 (n:Int)] 34)).alloc (.cells #[.bool false,.slice none 0 0,.int .i64 0] 34)):=by (repeat' first|(with_reducible first|assumption|apply bR|apply bA|apply bN|apply bD|apply bL|apply bS)|refine bT ?_ (by assumption)|go_size)
 have ON:=hid (fun w=>zND 1 (by omega) (by omega) w)
 have QA:=hid (fun v w h=>qabs_any v (nrm (sg neg (m:Int)) x0) 400000 200000 w h (by omega) (by omega))
 rw [show absD (nrm (sg neg (m:Int)) x0)=nrm (m:Int) x0 by rw [←nrm_natAbs,sg_abs,Int.natAbs_natCast]] at QA
 have QM:=hid (fun a c w (h:Nz 3 w a c (zl 1))=>qmake_any a c 1 (-(pl:Int)-4) 1 2000 w h (by decide) (by omega) (by omega) (by omega))
 have QC2:=hid (fun v u w h k=>qcmp_any v u (nrm (m:Int) x0) (nrm 1 (-(pl:Int)-4)) 400000 200000 2001 2000 w h k (by omega) (by omega) (by omega) (by omega))
 have wN:IntKind.i64.wrap (-(pl:Int))= -(pl:Int):=IntWalk.i64_in _ (by omega)
 have wN4:IntKind.i64.wrap (-(pl:Int)-4)= -(pl:Int)-4:=IntWalk.i64_in _ (by omega)
 clear h0 hX hXA hn hsg hla hczn hcz hne0 hv
 obtain ⟨cm,hcm⟩: ∃z,z=cmpD (nrm (m:Int) x0) (nrm 1 (-(pl:Int)-4)):=⟨_,rfl⟩
 rw [←hcm] at QC2 hnear
 clear hcm
 have HM:=hid hm
 clear hm
 cases neg
 ·have HR:=hid (show ∀en w',RetQD 3 w (nrm 1 0) 1 0 en w'→RetXF 3 w false m x0 pl en w' from fun en w' h=>⟨_,.inr ⟨HM.out,2^pl,HF.out,one_form pl⟩,h.weak (by omega) (by omega)⟩)
  go_enter Tryd.func14,Tryd.ntmps14
  go_upto_region 1 with fail
  refine wp_worldZ (fun WW=>Below w.heap.size w WW∧QL 34 WW w.heap.size false (.slice a la c) (n:Int)∧QL 34 WW (w.heap.size+1) false (.slice none 0 0) 0) ⟨yb0,zA,zR⟩ ?_
  clear yb0 zA zR
  intro W1 ⟨yb1,zA,zR⟩
  obtain ⟨⟨j0,j1,-⟩,j2,-⟩:=id zA
  go_upto_region 3 with (go_at_call 7;(with_reducible refine (QC.out _ _ (HV.out _ yb1)).mono ?_);rintro en w2 ⟨rfl,hb2⟩)
  have yb2:=below_trans yb1 hb2
  have zA2:=zA.below hb2
  have zR2:=zR.below hb2
  clear yb1 zA zR hb2 j0 j1 j2 QC
  obtain ⟨⟨j0,j1,-⟩,j2,-⟩:=id zA2
  go_upto_region 4 with (first
   |(go_at_call 8;(with_reducible refine (QA.out _ _ (HV.out _ yb2)).mono ?_);rintro en w3 ⟨v3,rfl,hq3,hb3⟩)
   |(go_at_call 11;(with_reducible refine (ON.out _).mono ?_);rintro en w4 ⟨v4,rfl,⟨a4,c4,rfl,m4⟩,hb4⟩)
   |(go_at_call 10;(with_reducible refine (QM.out _ _ _ m4).mono ?_);rintro en w5 ⟨v5,rfl,hq5,hb5⟩)
   |(go_at_call 7;(with_reducible refine (QC2.out _ _ _ ((hq3.below hb4).below hb5) hq5).mono ?_);rintro en w6 ⟨rfl,hb6⟩))
  have hb36:=below_trans (below_trans (below_trans hb3 hb4) hb5) hb6
  have yb3:=below_trans yb2 hb36
  have zA3:=((((zA2.below hb3).below hb4).below hb5).below hb6)
  have zR3:=((((zR2.below hb3).below hb4).below hb5).below hb6)
  clear yb2 zA2 zR2 hb3 hb4 hb5 hb6 hb36 hq3 hq5 m4 j0 j1 j2 QA QM QC2
  obtain ⟨⟨j0,j1,-⟩,j2,-⟩:=id zA3
  go_wp2_with (go_at_call 11;(with_reducible refine (ON.out _).mono ?_);rintro en w8 ⟨v8,rfl,⟨a8,c8,rfl,m8⟩,hb8⟩;have zR8:=zR3.below hb8;obtain ⟨⟨k0,k1,f0,f1,hs2⟩,k2,f2⟩:=id zR8)
  refine bodyPost_ret (by simp [results,Tryd.results14,go_sem,k0,k1,k2];try rfl) rfl ?_
  exact HR.out _ _ ⟨_,rfl,q_one (m8.set3Q zR8 (by decide) _ _ _),Go.Ulp.Below.put3 (below_trans yb3 hb8) (by omega) _ _ _⟩
 ·have HR:=hid (show ∀en w',RetQD 3 w (addD (nrm 1 0) (negD (nrm 1 (-(pl:Int))))) 4002 2000 en w'→RetXF 3 w true m x0 pl en w' from fun en w' h=>⟨_,.inr ⟨HM.out,2^pl-1,HF.out,one_less pl⟩,h.weak (by omega) (by omega)⟩)
  have QM0:=hid (fun a c w (h:Nz 3 w a c (zl 1))=>qmake_any a c 1 (-(pl:Int)) 1 2000 w h (by decide) (by omega) (by omega) (by omega))
  have QN:=hid (fun v w h=>qneg_any v (nrm 1 (-(pl:Int))) 2001 2000 w h (by omega) (by omega))
  have QAd:=hid (show ∀v u w,QD 3 w (nrm 1 0) 1 0 v→QD 3 w (negD (nrm 1 (-(pl:Int)))) 2001 2000 u→Calls Tryd.prog 34 #[v,u] w fun en w'=>RetQD 3 w (addD (nrm 1 0) (negD (nrm 1 (-(pl:Int))))) 4002 2000 en w' from fun v u w h k=>qadd_any v u _ _ 1 0 2001 2000 w h k (by omega) (by omega) (by omega) (by omega))
  generalize addD (nrm 1 0) (negD (nrm 1 (-(pl:Int))))=RD at *
  go_enter Tryd.func14,Tryd.ntmps14
  go_upto_region 1 with fail
  refine wp_worldZ (fun WW=>Below w.heap.size w WW∧QL 34 WW w.heap.size true (.slice a la c) (n:Int)∧QL 34 WW (w.heap.size+1) false (.slice none 0 0) 0) ⟨yb0,zA,zR⟩ ?_
  clear yb0 zA zR
  intro W1 ⟨yb1,zA,zR⟩
  obtain ⟨⟨j0,j1,-⟩,j2,-⟩:=id zA
  go_upto_region 3 with (go_at_call 7;(with_reducible refine (QC.out _ _ (HV.out _ yb1)).mono ?_);rintro en w2 ⟨rfl,hb2⟩)
  have yb2:=below_trans yb1 hb2
  have zA2:=zA.below hb2
  have zR2:=zR.below hb2
  clear yb1 zA zR hb2 j0 j1 j2 QC
  obtain ⟨⟨j0,j1,-⟩,j2,-⟩:=id zA2
  go_upto_region 4 with (first
   |(go_at_call 8;(with_reducible refine (QA.out _ _ (HV.out _ yb2)).mono ?_);rintro en w3 ⟨v3,rfl,hq3,hb3⟩)
   |(go_at_call 11;(with_reducible refine (ON.out _).mono ?_);rintro en w4 ⟨v4,rfl,⟨a4,c4,rfl,m4⟩,hb4⟩)
   |(go_at_call 10;(with_reducible refine (QM.out _ _ _ m4).mono ?_);rintro en w5 ⟨v5,rfl,hq5,hb5⟩)
   |(go_at_call 7;(with_reducible refine (QC2.out _ _ _ ((hq3.below hb4).below hb5) hq5).mono ?_);rintro en w6 ⟨rfl,hb6⟩))
  have hb36:=below_trans (below_trans (below_trans hb3 hb4) hb5) hb6
  have yb3:=below_trans yb2 hb36
  have zA3:=((((zA2.below hb3).below hb4).below hb5).below hb6)
  have zR3:=((((zR2.below hb3).below hb4).below hb5).below hb6)
  clear yb2 zA2 zR2 hb3 hb4 hb5 hb6 hb36 hq3 hq5 m4 j0 j1 j2 QA QM QC2
  obtain ⟨⟨j0,j1,-⟩,j2,-⟩:=id zA3
  go_wp2_with (first
   |(go_at_call 11;have hx:=m8;(with_reducible refine (ON.out _).mono ?_);rintro en w9 ⟨v9,rfl,⟨a9,c9,rfl,m9⟩,hb9⟩)
   |(go_at_call 11;(with_reducible refine (ON.out _).mono ?_);rintro en w8 ⟨v8,rfl,⟨a8,c8,rfl,m8⟩,hb8⟩)
   |(go_at_call 10;(with_reducible refine (QM0.out _ _ _ m9).mono ?_);rintro en w10 ⟨v10,rfl,hq10,hb10⟩)
   |(go_at_call 35;(with_reducible refine (QN.out _ _ hq10).mono ?_);rintro en w11 ⟨v11,rfl,hq11,hb11⟩)
   |(go_at_call 34;(with_reducible refine (QAd.out _ _ _ (q_one (((m8.below hb9).below hb10).below hb11)) hq11).mono ?_);rintro en w12 ⟨v12,rfl,⟨X7,n7,a7,c7,rfl,m7,hD7,hX7,hn7⟩,hb12⟩;have HD7:=hid hD7;clear hD7;have zR8:=((((zR3.below hb8).below hb9).below hb10).below hb11).below hb12;obtain ⟨⟨k0,k1,f0,f1,hs2⟩,k2,f2⟩:=id zR8))
  have yb9:=below_trans (below_trans (below_trans (below_trans (below_trans yb3 hb8) hb9) hb10) hb11) hb12
  refine bodyPost_ret (by simp [results,Tryd.results14,go_sem,k0,k1,k2];try rfl) rfl ?_
  exact HR.out _ _ ⟨_,rfl,⟨X7,n7,a7,c7,rfl,m7.set3Q zR8 (by decide) _ _ _,HD7.out,hX7,hn7⟩,Go.Ulp.Below.put3 yb9 (by omega) _ _ _⟩
theorem expFloor_any (neg:Bool) (m:Nat) (x0:Int) (pl:Nat) (v:Value) (w:World) (hv:QD 3 w (nrm (sg neg (m:Int)) x0) 400000 200000 v) (hm40:m<2^1280) (he: -10000≤x0) (h8:dyQ m x0≤((800:Nat):Rat)) (hpl:pl≤1300):
 Calls Tryd.prog 14 #[v,.int .i64 (pl:Int)] w (RetXF 3 w neg m x0 pl):=by
 by_cases hm:m=0
 ·exact xf_zero neg m x0 pl v w hv hm
 ·by_cases hn:cmpD (nrm (m:Int) x0) (nrm 1 (-(pl:Int)-4))<0
  ·exact xf_near neg m x0 pl v w hv (by omega) hpl hn
  ·exact xf_far neg m x0 pl v w hv (by omega) hm40 he h8 hpl hn
end Go.Proofs.YtehhegbkahnhgaaDoor
namespace Go.Ulp
open Go.RowKit
def P2 (t:TypeId) (w:World) (g:Nat) (v0 v1:Value):Prop:=
 w.cell? ⟨g,0,none⟩=some v0∧w.cell? ⟨g,1,none⟩=some v1∧w.frozen? ⟨g,0,none⟩=false∧w.frozen? ⟨g,1,none⟩=false∧ElemIs w g t
theorem P2.lt {t:TypeId} {w:World} {g:Nat} {v0 v1:Value} (h:P2 t w g v0 v1):g<w.heap.size:=h.2.2.2.2.lt
theorem P2.below {t:TypeId} {w w':World} {g:Nat} {v0 v1:Value} (h:P2 t w g v0 v1) (hb:Below w.heap.size w w'):P2 t w' g v0 v1:=by
 have hB:=h.lt
 obtain ⟨h0,h1,f0,f1,he⟩:=h
 exact ⟨(hb.cell (p:=⟨g,0,none⟩) hB).trans h0,(hb.cell (p:=⟨g,1,none⟩) hB).trans h1,(hb.frozen (p:=⟨g,0,none⟩) hB).trans f0,(hb.frozen (p:=⟨g,1,none⟩) hB).trans f1,he.belowB hb hB⟩
theorem P2.made {t:TypeId} {w:World} {g:Nat} {v0 v1:Value} (hg:g=w.heap.size):P2 t (w.alloc (.cells #[v0,v1] t)) g v0 v1:=by
 subst hg
 refine ⟨?_,?_,?_,?_,ElemIs.made _ _ _⟩
 all_goals first
  |(rw [World.cell?_alloc_at (hn:=rfl)];rfl)
  |(unfold World.frozen?;rw [heap_alloc_new];simp)
theorem P2.put {t:TypeId} {w:World} {g:Nat} {v0 v1:Value} (h:P2 t w g v0 v1) (u0 u1:Value):P2 t ((w.setCell ⟨g,0,none⟩ u0).setCell ⟨g,1,none⟩ u1) g u0 u1:=by
 obtain ⟨h0,h1,f0,f1,he⟩:=h
 have a:(w.setCell ⟨g,0,none⟩ u0).cell? ⟨g,0,none⟩=some u0:=World.cell?_setCell_same _ _ _ h0
 have b:(w.setCell ⟨g,0,none⟩ u0).cell? ⟨g,1,none⟩=some v1:=(cell_set_ne (by omega)).trans h1
 exact ⟨(cell_set_ne (by omega)).trans a,World.cell?_setCell_same _ _ _ b,(frozen_setCell _ _ _ _).trans ((frozen_setCell _ _ _ _).trans f0),(frozen_setCell _ _ _ _).trans ((frozen_setCell _ _ _ _).trans f1),(he.setCell _ _).setCell _ _⟩
theorem P2.far {t:TypeId} {w:World} {g:Nat} {v0 v1:Value} (h:P2 t w g v0 v1) (a:Addr) (u:Value) (hne:g≠a.block):P2 t (w.setCell a u) g v0 v1:=by
 obtain ⟨h0,h1,f0,f1,he⟩:=h
 have c: ∀o v,w.cell? ⟨g,o,none⟩=some v→(w.setCell a u).cell? ⟨g,o,none⟩=some v:=fun o v hv=>by
  rw [World.cell?_setCell_other (h:=fun e=>hne (by rw [e]))];exact hv
 exact ⟨c _ _ h0,c _ _ h1,(frozen_setCell _ _ _ _).trans f0,(frozen_setCell _ _ _ _).trans f1,he.setCell _ _⟩
theorem Ns.put2 {t:TypeId} {w:World} {g:Nat} {v0 v1:Value} {ao:Option Addr} {cap:Nat} {L:List Nat} (h:Ns .u32 w ao cap L) (z:P2 t w g v0 v1) (k0: ∀x,v0≠ .int .u32 x) (k1: ∀x,v1≠ .int .u32 x) (u0 u1:Value):
 Ns .u32 ((w.setCell ⟨g,0,none⟩ u0).setCell ⟨g,1,none⟩ u1) ao cap L:=by
 obtain ⟨h0,h1,-⟩:=z
 exact Ns.setCell_kind (Ns.setCell_kind h ⟨g,0,none⟩ u0 v0 h0 k0) ⟨g,1,none⟩ u1 v1 ((cell_set_ne (by omega)).trans h1) k1
theorem below_put2 {B:Nat} {w w':World} (h:Below B w w') {g:Nat} (hg:B≤g) (u0 u1:Value):Below B w ((w'.setCell ⟨g,0,none⟩ u0).setCell ⟨g,1,none⟩ u1):=
 (h.setCell (p:=⟨g,0,none⟩) hg _).setCell (p:=⟨g,1,none⟩) hg _
def PR (w:World) (x:PP) (v:Value):Prop:=
 ∃a b c d,v=.agg #[.slice a (limbs x.1).length c,.slice b (limbs x.2).length d]∧Ns .u32 w a c (limbs x.1)∧Ns .u32 w b d (limbs x.2)
theorem PR.below {w w':World} {x:PP} {v:Value} (h:PR w x v) (hb:Below w.heap.size w w'):PR w' x v:=by
 obtain ⟨a,b,c,d,h1,h2,h3⟩:=h;exact ⟨a,b,c,d,h1,h2.below hb,h3.below hb⟩
def RetPR (w:World) (x:PP) (e:Ending) (w':World):Prop:= ∃v,e=.returned v∧PR w' x v∧Below w.heap.size w w'
def Fact.pr (x:PP):Fact:=⟨fun v w=>PR w x v,fun _ _ _ h hb=>h.below hb⟩
theorem sl_no {a:Option Addr} {n c:Nat}: ∀x,Value.slice a n c≠ .int .u32 x:=by intro x h;cases h
theorem lost_cdiv (m n:Nat):cdiv m (2^n)=if lostB m n=true then m/2^n+1 else m/2^n:=by
 unfold cdiv lostB
 by_cases h:m%2^n=0
 ·rw [if_pos h,if_neg (by simpa using h)]
 ·rw [if_neg h,if_pos (by simpa using h)]
end Go.Ulp
namespace Go.Proofs.YtehhegbkahnhgaaDoor
open Go.RowKit Go.Ulp
set_option maxHeartbeats 2000000
set_option maxRecDepth 100000
theorem half_any (x:PP) (n:Nat) (v:Value) (w:World) (hv:PR w x v) (l1:(limbs x.1).length≤4294967296) (l2:(limbs x.2).length≤4294967296) (hn:n≤1099511627776):
 Calls Tryd.prog 97 #[v,.int .i64 (n:Int)] w (RetPR w (hfP x n)):=by
 obtain ⟨l,h⟩:=x
 obtain ⟨a,b,c,d,rfl,h0,h1⟩:=hv
 simp only at *
 have R0:=hid (fun w k=>right_any a c l n w k l1 (by omega))
 have R1:=hid (fun w k=>right_any b d h n w k l2 (by omega))
 have l3:(limbs (h/2^n)).length≤4294967296:=Nat.le_trans (limbs_len_mono (Nat.div_le_self _ _)) l2
 have OF:=hid (show ∀w,Calls Tryd.prog 21 #[.int .u64 1] w fun e w'=>RetN w 1 e w' from fun w=>natOf_any 1 (by omega) w)
 have PL:=hid (fun a c b d w k1 k2=>plus_any a b c d (h/2^n) 1 w k1 k2 l3 (by decide))
 have zA:P2 81 ((w.alloc (.cells #[.slice a (limbs l).length c,.slice b (limbs h).length d] 81)).alloc (.cells #[.slice none 0 0,.slice none 0 0] 81)) w.heap.size (.slice a (limbs l).length c) (.slice b (limbs h).length d):=(P2.made rfl).below (below_alloc _ _)
 have zR:P2 81 ((w.alloc (.cells #[.slice a (limbs l).length c,.slice b (limbs h).length d] 81)).alloc (.cells #[.slice none 0 0,.slice none 0 0] 81)) (w.heap.size+1) (.slice none 0 0) (.slice none 0 0):=P2.made (by simp)
 have yb0:Below w.heap.size w ((w.alloc (.cells #[.slice a (limbs l).length c,.slice b (limbs h).length d] 81)).alloc (.cells #[.slice none 0 0,.slice none 0 0] 81)):=by (repeat' first|(with_reducible first|assumption|apply bR|apply bA|apply bN|apply bD|apply bL|apply bS)|refine bT ?_ (by assumption)|go_size)
 have HX:=hid (show hfP (l,h) n=(l/2^n,if lostB h n=true then h/2^n+1 else h/2^n) by unfold hfP;rw [lost_cdiv])
 have H0:=hid h0
 have H1:=hid h1
 obtain ⟨q0,hq0⟩: ∃q,q=l/2^n:=⟨_,rfl⟩
 obtain ⟨q1,hq1⟩: ∃q,q=h/2^n:=⟨_,rfl⟩
 rw [←hq0] at R0 HX
 rw [←hq1] at R1 PL HX
 clear h0 h1 hq0 hq1 l1 l2 l3
 obtain ⟨ls,hls⟩: ∃b,b=lostB h n:=⟨_,rfl⟩
 rw [←hls] at R1 HX
 clear hls
 rw [HX.out]
 clear HX
 go_enter Tryd.func97,Tryd.ntmps97
 obtain ⟨j0,j1,-⟩:=id zA
 go_upto_region 2 with (go_at_call 49;(with_reducible refine (R0.out _ (H0.out.below yb0)).mono ?_);rintro en w1 ⟨b0,rfl,hN1,hb1⟩)
 have yb1:=below_trans yb0 hb1
 have zA1:=zA.below hb1
 have zR1:=zR.below hb1
 clear zA zR j0 j1 hb1 yb0
 obtain ⟨j0,j1,-⟩:=id zA1
 go_upto_region 3 with (go_at_call 49;(with_reducible refine (R1.out _ (H1.out.below yb1)).mono ?_);rintro en w2 ⟨b1,rfl,hN2,hb2⟩)
 have yb2:=below_trans yb1 hb2
 have zR2:=zR1.below hb2
 have hM1:=hN1.below hb2
 clear zA1 zR1 j0 j1 hN1 yb1 hb2 R0 R1
 cases ls
 ·obtain ⟨k0,k1,f0,f1,-⟩:=id zR2
  go_wp2_with fail
  refine bodyPost_ret (by simp [results,Tryd.results97,go_sem,k0,k1];try rfl) rfl ?_
  exact ⟨_,rfl,⟨_,_,_,_,rfl,hM1.put2 zR2 sl_no sl_no _ _,hN2.put2 zR2 sl_no sl_no _ _⟩,below_put2 yb2 (by omega) _ _⟩
 ·go_upto_region 5 with (first
   |(go_at_call 21;(with_reducible refine (OF.out _).mono ?_);rintro en w3 ⟨b3,rfl,hN3,hb3⟩)
   |(go_at_call 56;(with_reducible refine (PL.out _ _ _ _ _ (hN2.below hb3) hN3).mono ?_);rintro en w4 ⟨b4,rfl,hN4,hb4⟩))
  have yb4:=below_trans (below_trans yb2 hb3) hb4
  have zR4:=(zR2.below hb3).below hb4
  have hM4:=(hM1.below hb3).below hb4
  clear zR2 hM1 hN2 hN3 yb2 hb3 hb4
  obtain ⟨k0,k1,f0,f1,-⟩:=id zR4
  go_wp2_with fail
  refine bodyPost_ret (by simp [results,Tryd.results97,go_sem,k0,k1];try rfl) rfl ?_
  exact ⟨_,rfl,⟨_,_,_,_,rfl,hM4.put2 zR4 sl_no sl_no _ _,hN4.put2 zR4 sl_no sl_no _ _⟩,below_put2 yb4 (by omega) _ _⟩
set_option maxHeartbeats 4000000
theorem times9_any (x y:PP) (p:Nat) (v u:Value) (w:World) (hv:PR w x v) (hu:PR w y u) (l1:(limbs x.1).length≤4294967296) (l2:(limbs x.2).length≤4294967296) (l3:(limbs y.1).length≤4294967296) (l4:(limbs y.2).length≤4294967296)
 (l5:(limbs (x.1*y.1)).length≤4294967296) (l6:(limbs (x.2*y.2)).length≤4294967296) (hn:p≤1099511627776):
 Calls Tryd.prog 87 #[v,u,.int .i64 (p:Int)] w (RetPR w (tmP x y p)):=by
 obtain ⟨l,h⟩:=x
 obtain ⟨m,k⟩:=y
 obtain ⟨a,b,c,d,rfl,h0,h1⟩:=hv
 obtain ⟨a',b',c',d',rfl,h2,h3⟩:=hu
 simp only at *
 have TL:=hid (fun w q r=>times_any a a' c c' l m w q r l1 l3)
 have TH:=hid (fun w q r=>times_any b b' d d' h k w q r l2 l4)
 have HF:=hid (fun v w hv=>half_any (l*m,h*k) p v w hv l5 l6 hn)
 rw [show hfP (l*m,h*k) p=tmP (l,h) (m,k) p from rfl] at HF
 have yb0:Below w.heap.size w (((w.alloc (.cells #[.slice a (limbs l).length c,.slice b (limbs h).length d] 81)).alloc (.cells #[.slice a' (limbs m).length c',.slice b' (limbs k).length d'] 81)).alloc (.cells #[.slice none 0 0,.slice none 0 0] 81)):=by (repeat' first|(with_reducible first|assumption|apply bR|apply bA|apply bN|apply bD|apply bL|apply bS)|refine bT ?_ (by assumption)|go_size)
 have zA:P2 81 (((w.alloc (.cells #[.slice a (limbs l).length c,.slice b (limbs h).length d] 81)).alloc (.cells #[.slice a' (limbs m).length c',.slice b' (limbs k).length d'] 81)).alloc (.cells #[.slice none 0 0,.slice none 0 0] 81)) w.heap.size (.slice a (limbs l).length c) (.slice b (limbs h).length d):=((P2.made rfl).below (below_alloc _ _)).below (below_alloc _ _)
 have zB:P2 81 (((w.alloc (.cells #[.slice a (limbs l).length c,.slice b (limbs h).length d] 81)).alloc (.cells #[.slice a' (limbs m).length c',.slice b' (limbs k).length d'] 81)).alloc (.cells #[.slice none 0 0,.slice none 0 0] 81)) (w.heap.size+1) (.slice a' (limbs m).length c') (.slice b' (limbs k).length d'):=(P2.made (by simp)).below (below_alloc _ _)
 have zR:P2 81 (((w.alloc (.cells #[.slice a (limbs l).length c,.slice b (limbs h).length d] 81)).alloc (.cells #[.slice a' (limbs m).length c',.slice b' (limbs k).length d'] 81)).alloc (.cells #[.slice none 0 0,.slice none 0 0] 81)) (w.heap.size+1+1) (.slice none 0 0) (.slice none 0 0):=P2.made (by simp)
 have H0:=hid h0
 have H1:=hid h1
 have H2:=hid h2
 have H3:=hid h3
 generalize tmP (l,h) (m,k) p=R at *
 clear h0 h1 h2 h3 l1 l2 l3 l4 l5 l6
 go_enter Tryd.func87,Tryd.ntmps87
 go_upto_region 1 with fail
 refine wp_region_grow 13 [7,8,9,10,11,12,13,14,15,16,17,18,19] [Fact.is (.pointer (some ⟨w.heap.size,0,none⟩)),Fact.is (.slice a (limbs l).length c),Fact.is (.pointer (some ⟨w.heap.size+1,0,none⟩)),Fact.is (.slice a' (limbs m).length c'),Fact.li (l*m),Fact.is (.pointer (some ⟨w.heap.size,1,none⟩)),Fact.is (.slice b (limbs h).length d),Fact.is (.pointer (some ⟨w.heap.size+1,1,none⟩)),Fact.is (.slice b' (limbs k).length d'),Fact.li (h*k),Fact.pr (l*m,h*k),Fact.is (.int .i64 (p:Int)),Fact.pr R] (by kernel_rfl) (by kernel_rfl) ⟨?o0,?o1,?o2,?o3,?o4,?o5,?o6,?o7,?o8,?o9,?o10,?o11,?o12,trivial⟩ ?after
 case o0=>(refine oQ rfl ?_;intro ρ w1 R hcon hfn hρ hb hp hR;have e3:ρ (.tmp 3)=.pointer (some ⟨w.heap.size,0,none⟩):=hρ.tmp 3 rfl;clear hρ hp;unfold OpRun;go_simp;exact hR _ _ (Below.refl _ _) rfl)
 case o1=>(refine oQ rfl ?_;intro ρ w1 R hcon hfn hρ hb hp hR;have e7:ρ (.tmp 7)=_:=hp 0 7 rfl rfl;obtain ⟨j0,j1,-⟩:=zA.below hb;clear hρ hp;unfold OpRun;go_simp;exact hR _ _ (Below.refl _ _) rfl)
 case o2=>(refine oQ rfl ?_;intro ρ w1 R hcon hfn hρ hb hp hR;have e4:ρ (.tmp 4)=.pointer (some ⟨w.heap.size+1,0,none⟩):=hρ.tmp 4 rfl;clear hρ hp;unfold OpRun;go_simp;exact hR _ _ (Below.refl _ _) rfl)
 case o3=>(refine oQ rfl ?_;intro ρ w1 R hcon hfn hρ hb hp hR;have e9:ρ (.tmp 9)=_:=hp 2 9 rfl rfl;obtain ⟨j0,j1,-⟩:=zB.below hb;clear hρ hp;unfold OpRun;go_simp;exact hR _ _ (Below.refl _ _) rfl)
 case o4=>(refine oQ rfl ?_;intro ρ w1 R hcon hfn hρ hb hp hR;have e8:ρ (.tmp 8)=_:=hp 1 8 rfl rfl;have e10:ρ (.tmp 10)=_:=hp 3 10 rfl rfl;clear hρ hp;unfold OpRun;go_simp;(refine (TL.out _ (H0.out.below (below_trans yb0 hb)) (H2.out.below (below_trans yb0 hb))).mono ?_;rintro e wn ⟨a9,rfl,hn9,hbn⟩;exact ⟨_,rfl,hR _ _ hbn ⟨a9,_,rfl,hn9⟩⟩))
 case o5=>(refine oQ rfl ?_;intro ρ w1 R hcon hfn hρ hb hp hR;have e3:ρ (.tmp 3)=.pointer (some ⟨w.heap.size,0,none⟩):=hρ.tmp 3 rfl;clear hρ hp;unfold OpRun;go_simp;exact hR _ _ (Below.refl _ _) rfl)
 case o6=>(refine oQ rfl ?_;intro ρ w1 R hcon hfn hρ hb hp hR;have e12:ρ (.tmp 12)=_:=hp 5 12 rfl rfl;obtain ⟨j0,j1,-⟩:=zA.below hb;clear hρ hp;unfold OpRun;go_simp;exact hR _ _ (Below.refl _ _) rfl)
 case o7=>(refine oQ rfl ?_;intro ρ w1 R hcon hfn hρ hb hp hR;have e4:ρ (.tmp 4)=.pointer (some ⟨w.heap.size+1,0,none⟩):=hρ.tmp 4 rfl;clear hρ hp;unfold OpRun;go_simp;exact hR _ _ (Below.refl _ _) rfl)
 case o8=>(refine oQ rfl ?_;intro ρ w1 R hcon hfn hρ hb hp hR;have e14:ρ (.tmp 14)=_:=hp 7 14 rfl rfl;obtain ⟨j0,j1,-⟩:=zB.below hb;clear hρ hp;unfold OpRun;go_simp;exact hR _ _ (Below.refl _ _) rfl)
 case o9=>(refine oQ rfl ?_;intro ρ w1 R hcon hfn hρ hb hp hR;have e13:ρ (.tmp 13)=_:=hp 6 13 rfl rfl;have e15:ρ (.tmp 15)=_:=hp 8 15 rfl rfl;clear hρ hp;unfold OpRun;go_simp;(refine (TH.out _ (H1.out.below (below_trans yb0 hb)) (H3.out.below (below_trans yb0 hb))).mono ?_;rintro e wn ⟨a9,rfl,hn9,hbn⟩;exact ⟨_,rfl,hR _ _ hbn ⟨a9,_,rfl,hn9⟩⟩))
 case o10=>(refine oQ rfl ?_;intro ρ w1 R hcon hfn hρ hb hp hR;have f11:=hp 4 11 rfl rfl;have f16:=hp 9 16 rfl rfl;obtain ⟨a9,c9,e11,hn9⟩:=f11;obtain ⟨b9,d9,e16,hm9⟩:=f16;clear hρ hp;unfold OpRun;go_simp;exact hR _ _ (Below.refl _ _) ⟨a9,b9,c9,d9,rfl,hn9,hm9⟩)
 case o11=>(refine oQ rfl ?_;intro ρ w1 R hcon hfn hρ hb hp hR;have e2:ρ (.tmp 2)=.int .i64 (p:Int):=hρ.tmp 2 rfl;clear hρ hp;unfold OpRun;go_simp;exact hR _ _ (Below.refl _ _) rfl)
 case o12=>(refine oQ rfl ?_;intro ρ w1 R hcon hfn hρ hb hp hR;have f17:=hp 10 17 rfl rfl;have e18:ρ (.tmp 18)=_:=hp 11 18 rfl rfl;clear hρ hp;unfold OpRun;go_simp;(refine (HF.out _ _ f17).mono ?_;rintro e wn ⟨v8,rfl,hv8,hbn⟩;exact ⟨_,rfl,hR _ _ hbn hv8⟩))
 case after=>
  intro u wn hb hf
  have f19:=hf 12 19 (by omega) rfl
  clear hf
  simp only [putAll,Act.put,List.setIfInBounds_toArray,List.set_cons_zero,List.set_cons_succ,List.drop_succ_cons,List.drop_zero,List.drop_nil]
  obtain ⟨a9,b9,c9,d9,e19,hn9,hm9⟩:=f19
  rw [e19]
  have zR2:=zR.below hb
  have yb2:=below_trans yb0 hb
  obtain ⟨k0,k1,f0,f1,-⟩:=id zR2
  go_wp2_with fail
  refine bodyPost_ret (by simp [results,Tryd.results87,go_sem,k0,k1];try rfl) rfl ?_
  exact ⟨_,rfl,⟨_,_,_,_,rfl,hn9.put2 zR2 sl_no sl_no _ _,hm9.put2 zR2 sl_no sl_no _ _⟩,below_put2 yb2 (by omega) _ _⟩
theorem plus9_any (x y:PP) (v u:Value) (w:World) (hv:PR w x v) (hu:PR w y u) (l1:(limbs x.1).length≤4294967296) (l2:(limbs x.2).length≤4294967296) (l3:(limbs y.1).length≤4294967296) (l4:(limbs y.2).length≤4294967296):
 Calls Tryd.prog 88 #[v,u] w (RetPR w (plP x y)):=by
 obtain ⟨l,h⟩:=x
 obtain ⟨m,k⟩:=y
 obtain ⟨a,b,c,d,rfl,h0,h1⟩:=hv
 obtain ⟨a',b',c',d',rfl,h2,h3⟩:=hu
 simp only at *
 have TL:=hid (fun w q r=>plus_any a a' c c' l m w q r l1 l3)
 have TH:=hid (fun w q r=>plus_any b b' d d' h k w q r l2 l4)
 rw [show plP (l,h) (m,k)=(l+m,h+k) from rfl]
 have yb0:Below w.heap.size w (((w.alloc (.cells #[.slice a (limbs l).length c,.slice b (limbs h).length d] 81)).alloc (.cells #[.slice a' (limbs m).length c',.slice b' (limbs k).length d'] 81)).alloc (.cells #[.slice none 0 0,.slice none 0 0] 81)):=by (repeat' first|(with_reducible first|assumption|apply bR|apply bA|apply bN|apply bD|apply bL|apply bS)|refine bT ?_ (by assumption)|go_size)
 have zA:P2 81 (((w.alloc (.cells #[.slice a (limbs l).length c,.slice b (limbs h).length d] 81)).alloc (.cells #[.slice a' (limbs m).length c',.slice b' (limbs k).length d'] 81)).alloc (.cells #[.slice none 0 0,.slice none 0 0] 81)) w.heap.size (.slice a (limbs l).length c) (.slice b (limbs h).length d):=((P2.made rfl).below (below_alloc _ _)).below (below_alloc _ _)
 have zB:P2 81 (((w.alloc (.cells #[.slice a (limbs l).length c,.slice b (limbs h).length d] 81)).alloc (.cells #[.slice a' (limbs m).length c',.slice b' (limbs k).length d'] 81)).alloc (.cells #[.slice none 0 0,.slice none 0 0] 81)) (w.heap.size+1) (.slice a' (limbs m).length c') (.slice b' (limbs k).length d'):=(P2.made (by simp)).below (below_alloc _ _)
 have zR:P2 81 (((w.alloc (.cells #[.slice a (limbs l).length c,.slice b (limbs h).length d] 81)).alloc (.cells #[.slice a' (limbs m).length c',.slice b' (limbs k).length d'] 81)).alloc (.cells #[.slice none 0 0,.slice none 0 0] 81)) (w.heap.size+1+1) (.slice none 0 0) (.slice none 0 0):=P2.made (by simp)
 have H0:=hid h0
 have H1:=hid h1
 have H2:=hid h2
 have H3:=hid h3
 clear h0 h1 h2 h3 l1 l2 l3 l4
 go_enter Tryd.func88,Tryd.ntmps88
 go_upto_region 1 with fail
 refine wp_region_grow 11 [5,6,7,8,9,10,11,12,13,14,15] [Fact.is (.pointer (some ⟨w.heap.size,0,none⟩)),Fact.is (.slice a (limbs l).length c),Fact.is (.pointer (some ⟨w.heap.size+1,0,none⟩)),Fact.is (.slice a' (limbs m).length c'),Fact.li (l+m),Fact.is (.pointer (some ⟨w.heap.size,1,none⟩)),Fact.is (.slice b (limbs h).length d),Fact.is (.pointer (some ⟨w.heap.size+1,1,none⟩)),Fact.is (.slice b' (limbs k).length d'),Fact.li (h+k),Fact.pr (l+m,h+k)] (by kernel_rfl) (by kernel_rfl) ⟨?o0,?o1,?o2,?o3,?o4,?o5,?o6,?o7,?o8,?o9,?o10,trivial⟩ ?after
 case o0=>(refine oQ rfl ?_;intro ρ w1 R hcon hfn hρ hb hp hR;have e2:ρ (.tmp 2)=.pointer (some ⟨w.heap.size,0,none⟩):=hρ.tmp 2 rfl;clear hρ hp;unfold OpRun;go_simp;exact hR _ _ (Below.refl _ _) rfl)
 case o1=>(refine oQ rfl ?_;intro ρ w1 R hcon hfn hρ hb hp hR;have e5:ρ (.tmp 5)=_:=hp 0 5 rfl rfl;obtain ⟨j0,j1,-⟩:=zA.below hb;clear hρ hp;unfold OpRun;go_simp;exact hR _ _ (Below.refl _ _) rfl)
 case o2=>(refine oQ rfl ?_;intro ρ w1 R hcon hfn hρ hb hp hR;have e3:ρ (.tmp 3)=.pointer (some ⟨w.heap.size+1,0,none⟩):=hρ.tmp 3 rfl;clear hρ hp;unfold OpRun;go_simp;exact hR _ _ (Below.refl _ _) rfl)
 case o3=>(refine oQ rfl ?_;intro ρ w1 R hcon hfn hρ hb hp hR;have e7:ρ (.tmp 7)=_:=hp 2 7 rfl rfl;obtain ⟨j0,j1,-⟩:=zB.below hb;clear hρ hp;unfold OpRun;go_simp;exact hR _ _ (Below.refl _ _) rfl)
 case o4=>(refine oQ rfl ?_;intro ρ w1 R hcon hfn hρ hb hp hR;have e6:ρ (.tmp 6)=_:=hp 1 6 rfl rfl;have e8:ρ (.tmp 8)=_:=hp 3 8 rfl rfl;clear hρ hp;unfold OpRun;go_simp;(refine (TL.out _ (H0.out.below (below_trans yb0 hb)) (H2.out.below (below_trans yb0 hb))).mono ?_;rintro e wn ⟨a9,rfl,hn9,hbn⟩;exact ⟨_,rfl,hR _ _ hbn ⟨a9,_,rfl,hn9⟩⟩))
 case o5=>(refine oQ rfl ?_;intro ρ w1 R hcon hfn hρ hb hp hR;have e2:ρ (.tmp 2)=.pointer (some ⟨w.heap.size,0,none⟩):=hρ.tmp 2 rfl;clear hρ hp;unfold OpRun;go_simp;exact hR _ _ (Below.refl _ _) rfl)
 case o6=>(refine oQ rfl ?_;intro ρ w1 R hcon hfn hρ hb hp hR;have e10:ρ (.tmp 10)=_:=hp 5 10 rfl rfl;obtain ⟨j0,j1,-⟩:=zA.below hb;clear hρ hp;unfold OpRun;go_simp;exact hR _ _ (Below.refl _ _) rfl)
 case o7=>(refine oQ rfl ?_;intro ρ w1 R hcon hfn hρ hb hp hR;have e3:ρ (.tmp 3)=.pointer (some ⟨w.heap.size+1,0,none⟩):=hρ.tmp 3 rfl;clear hρ hp;unfold OpRun;go_simp;exact hR _ _ (Below.refl _ _) rfl)
 case o8=>(refine oQ rfl ?_;intro ρ w1 R hcon hfn hρ hb hp hR;have e12:ρ (.tmp 12)=_:=hp 7 12 rfl rfl;obtain ⟨j0,j1,-⟩:=zB.below hb;clear hρ hp;unfold OpRun;go_simp;exact hR _ _ (Below.refl _ _) rfl)
 case o9=>(refine oQ rfl ?_;intro ρ w1 R hcon hfn hρ hb hp hR;have e11:ρ (.tmp 11)=_:=hp 6 11 rfl rfl;have e13:ρ (.tmp 13)=_:=hp 8 13 rfl rfl;clear hρ hp;unfold OpRun;go_simp;(refine (TH.out _ (H1.out.below (below_trans yb0 hb)) (H3.out.below (below_trans yb0 hb))).mono ?_;rintro e wn ⟨a9,rfl,hn9,hbn⟩;exact ⟨_,rfl,hR _ _ hbn ⟨a9,_,rfl,hn9⟩⟩))
 case o10=>(refine oQ rfl ?_;intro ρ w1 R hcon hfn hρ hb hp hR;have f9:=hp 4 9 rfl rfl;have f14:=hp 9 14 rfl rfl;obtain ⟨a9,c9,e9,hn9⟩:=f9;obtain ⟨b9,d9,e14,hm9⟩:=f14;clear hρ hp;unfold OpRun;go_simp;exact hR _ _ (Below.refl _ _) ⟨a9,b9,c9,d9,rfl,hn9,hm9⟩)
 case after=>
  intro u wn hb hf
  have f15:=hf 10 15 (by omega) rfl
  clear hf
  simp only [putAll,Act.put,List.setIfInBounds_toArray,List.set_cons_zero,List.set_cons_succ,List.drop_succ_cons,List.drop_zero,List.drop_nil]
  obtain ⟨a9,b9,c9,d9,e15,hn9,hm9⟩:=f15
  rw [e15]
  have zR2:=zR.below hb
  have yb2:=below_trans yb0 hb
  obtain ⟨k0,k1,f0,f1,-⟩:=id zR2
  go_wp2_with fail
  refine bodyPost_ret (by simp [results,Tryd.results88,go_sem,k0,k1];try rfl) rfl ?_
  exact ⟨_,rfl,⟨_,_,_,_,rfl,hn9.put2 zR2 sl_no sl_no _ _,hm9.put2 zR2 sl_no sl_no _ _⟩,below_put2 yb2 (by omega) _ _⟩
theorem fixed_any (m:Nat) (e:Int) (p:Nat) (a:Option Addr) (c:Nat) (w:World) (h0:Ns .u32 w a c (limbs m)) (l1:(limbs m).length≤4294967296) (he: -549755813888≤e∧e≤549755813888) (hp:p≤549755813888):
 Calls Tryd.prog 85 #[.slice a (limbs m).length c,.int .i64 e,.int .i64 (p:Int)] w (RetPR w (fxP m e p)):=by
 have yb0:=below_alloc w (.cells #[.slice none 0 0,.slice none 0 0] 81)
 have zR:P2 81 (w.alloc (.cells #[.slice none 0 0,.slice none 0 0] 81)) w.heap.size (.slice none 0 0) (.slice none 0 0):=P2.made rfl
 by_cases hc:0≤e+p
 ·obtain ⟨n,hn⟩: ∃n:Nat,(n:Int)=e+p:=⟨(e+p).toNat,by omega⟩
  have HX:=hid (show fxP m e p=(m*2^n,m*2^n) by unfold fxP;rw [if_pos hc,show (e+(p:Int)).toNat=n by omega])
  have LE:=hid (fun w h=>leftN_any a c m n w h l1 (by omega))
  rw [HX.out]
  have H0:=hid h0
  have wI:IntKind.i64.wrap (e+(p:Int))=(n:Int):=by rw [hn];exact IntWalk.i64_in _ (by omega)
  have g1:(0:Int)≤(n:Int):=by omega
  clear HX h0 hc hn
  go_enter Tryd.func85,Tryd.ntmps85
  go_upto_region 3 with (go_at_call 54;(with_reducible refine (LE.out _ (H0.out.below yb0)).mono ?_);rintro en w1 ⟨b0,rfl,hN1,hb1⟩)
  have yb1:=below_trans yb0 hb1
  have zR1:=zR.below hb1
  obtain ⟨k0,k1,f0,f1,-⟩:=id zR1
  go_wp2_with fail
  refine bodyPost_ret (by simp [results,Tryd.results85,go_sem,k0,k1];try rfl) rfl ?_
  exact ⟨_,rfl,⟨_,_,_,_,rfl,hN1.put2 zR1 sl_no sl_no _ _,hN1.put2 zR1 sl_no sl_no _ _⟩,below_put2 yb1 (by omega) _ _⟩
 ·obtain ⟨n,hn⟩: ∃n:Nat,(n:Int)= -(e+p):=⟨(-(e+p)).toNat,by omega⟩
  have HX:=hid (show fxP m e p=hfP (m,m) n by unfold fxP;rw [if_neg hc,show (-(e+(p:Int))).toNat=n by omega])
  have HF:=hid (fun v w hv=>half_any (m,m) n v w hv l1 l1 (by omega))
  rw [HX.out]
  generalize hfP (m,m) n=R at *
  have H0:=hid h0
  have wI:IntKind.i64.wrap (e+(p:Int))= -(n:Int):=by rw [hn];rw [IntWalk.i64_in _ (by omega)];omega
  have wN:IntKind.i64.wrap (-e)= -e:=IntWalk.i64_in _ (by omega)
  have wS:IntKind.i64.wrap (-e-(p:Int))=(n:Int):=by rw [IntWalk.i64_in _ (by omega)];omega
  have g1: ¬(0:Int)≤ -(n:Int):=by omega
  clear HX h0 hc hn
  go_enter Tryd.func85,Tryd.ntmps85
  go_wp2_with (go_at_call 97;(go_loud (refine (HF.out _ _ ⟨_,_,_,_,rfl,H0.out.below yb0,H0.out.below yb0⟩).mono ?_));rintro en w1 ⟨v1,rfl,⟨a9,b9,c9,d9,rfl,hn9,hm9⟩,hb1⟩;have yb1:=below_trans yb0 hb1;have zR1:=zR.below hb1;obtain ⟨k0,k1,f0,f1,-⟩:=id zR1)
  refine bodyPost_ret (by simp [results,Tryd.results85,go_sem,k0,k1];try rfl) rfl ?_
  exact ⟨_,rfl,⟨_,_,_,_,rfl,hn9.put2 zR1 sl_no sl_no _ _,hm9.put2 zR1 sl_no sl_no _ _⟩,below_put2 yb1 (by omega) _ _⟩
end Go.Proofs.YtehhegbkahnhgaaDoor
namespace Go.Ulp
open Go.RowKit
def Fact.nn (q r:Nat):Fact:=⟨fun v w=> ∃ao cap bo cbp,v=.tuple #[.slice ao (limbs q).length cap,.slice bo (limbs r).length cbp]∧Ns .u32 w ao cap (limbs q)∧Ns .u32 w bo cbp (limbs r),fun _ _ _ h hb=>by
 obtain ⟨a,b,c,d,h1,h2,h3⟩:=h
 exact ⟨a,b,c,d,h1,h2.below hb,h3.below hb⟩⟩
def RetVD2 (w:World) (D E:Dy) (e:Ending) (w':World):Prop:= ∃v u,e=.returned (.tuple #[v,u])∧VD w' D v∧VD w' E u∧Below w.heap.size w w'
end Go.Ulp
namespace Go.Proofs.YtehhegbkahnhgaaDoor
open Go.RowKit Go.Ulp
set_option maxHeartbeats 4000000
set_option maxRecDepth 100000
theorem over9_any (x:PP) (n:Nat) (v:Value) (w:World) (hv:PR w x v) (l1:(limbs x.1).length≤4294967296) (l2:(limbs x.2).length≤4294967296) (hn0:0<n) (hn:n≤9223372036854775807):
 Calls Tryd.prog 86 #[v,.int .i64 (n:Int)] w (RetPR w (ovP x n)):=by
 obtain ⟨l,h⟩:=x
 obtain ⟨a,b,c,d,rfl,h0,h1⟩:=hv
 simp only at *
 have OFn:=hid (show ∀w,Calls Tryd.prog 21 #[.int .u64 (n:Int)] w fun e w'=>RetN w n e w' from fun w=>natOf_any n (by omega) w)
 have O0:=hid (fun a' c' w q r=>over_any a a' c c' l n w q r l1 hn0)
 have O1:=hid (fun a' c' w q r=>over_any b a' d c' h n w q r l2 hn0)
 have l3:(limbs (h/n)).length≤4294967296:=Nat.le_trans (limbs_len_mono (Nat.div_le_self _ _)) l2
 have OF:=hid (show ∀w,Calls Tryd.prog 21 #[.int .u64 1] w fun e w'=>RetN w 1 e w' from fun w=>natOf_any 1 (by omega) w)
 have PL:=hid (fun a c b d w k1 k2=>plus_any a b c d (h/n) 1 w k1 k2 l3 (by decide))
 have zA:P2 81 ((w.alloc (.cells #[.slice a (limbs l).length c,.slice b (limbs h).length d] 81)).alloc (.cells #[.slice none 0 0,.slice none 0 0] 81)) w.heap.size (.slice a (limbs l).length c) (.slice b (limbs h).length d):=(P2.made rfl).below (below_alloc _ _)
 have zR:P2 81 ((w.alloc (.cells #[.slice a (limbs l).length c,.slice b (limbs h).length d] 81)).alloc (.cells #[.slice none 0 0,.slice none 0 0] 81)) (w.heap.size+1) (.slice none 0 0) (.slice none 0 0):=P2.made (by simp)
 have yb0:Below w.heap.size w ((w.alloc (.cells #[.slice a (limbs l).length c,.slice b (limbs h).length d] 81)).alloc (.cells #[.slice none 0 0,.slice none 0 0] 81)):=by (repeat' first|(with_reducible first|assumption|apply bR|apply bA|apply bN|apply bD|apply bL|apply bS)|refine bT ?_ (by assumption)|go_size)
 have HX:=hid (show ovP (l,h) n=(l/n,if h%n=0 then h/n else h/n+1) from rfl)
 have H0:=hid h0
 have H1:=hid h1
 have wU:IntKind.u64.wrap (n:Int)=(n:Int):=by
  show (n:Int)%18446744073709551616=n
  omega
 obtain ⟨q0,hq0⟩: ∃q,q=l/n:=⟨_,rfl⟩
 obtain ⟨r0,hr0⟩: ∃q,q=l%n:=⟨_,rfl⟩
 obtain ⟨q1,hq1⟩: ∃q,q=h/n:=⟨_,rfl⟩
 obtain ⟨r1,hr1⟩: ∃q,q=h%n:=⟨_,rfl⟩
 rw [←hq0,←hr0] at O0
 rw [←hq1,←hr1] at O1
 rw [←hq0,←hq1,←hr1] at HX
 rw [←hq1] at PL
 generalize ovP (l,h) n=RR at HX ⊢
 clear h0 h1 hq0 hq1 hr0 hr1 l1 l2 l3
 go_enter Tryd.func86,Tryd.ntmps86
 go_upto_region 1 with fail
 refine wp_region_grow 11 [10,11,12,13,14,15,9,16,17,5,6] [Fact.is (.pointer (some ⟨w.heap.size,0,none⟩)),Fact.is (.slice a (limbs l).length c),Fact.is (.int .i64 (n:Int)),Fact.is (.int .u64 (n:Int)),Fact.li n,Fact.nn q0 r0,Fact.nn q0 r0,Fact.li q0,Fact.li r0,Fact.li q0,Fact.li r0] (by kernel_rfl) (by kernel_rfl) ⟨?o0,?o1,?o2,?o3,?o4,?o5,?o6,?o7,?o8,?o9,?o10,trivial⟩ ?after
 case o0=>(refine oQ rfl ?_;intro ρ w1 R hcon hfn hρ hb hp hR;have e2:ρ (.tmp 2)=.pointer (some ⟨w.heap.size,0,none⟩):=hρ.tmp 2 rfl;clear hρ hp;unfold OpRun;go_simp;exact hR _ _ (Below.refl _ _) rfl)
 case o1=>(refine oQ rfl ?_;intro ρ w1 R hcon hfn hρ hb hp hR;have e10:ρ (.tmp 10)=_:=hp 0 10 rfl rfl;obtain ⟨j0,j1,-⟩:=zA.below hb;clear hρ hp;unfold OpRun;go_simp;exact hR _ _ (Below.refl _ _) rfl)
 case o2=>(refine oQ rfl ?_;intro ρ w1 R hcon hfn hρ hb hp hR;have e1:ρ (.tmp 1)=.int .i64 (n:Int):=hρ.tmp 1 rfl;clear hρ hp;unfold OpRun;go_simp;exact hR _ _ (Below.refl _ _) rfl)
 case o3=>(refine oQ rfl ?_;intro ρ w1 R hcon hfn hρ hb hp hR;have e12:ρ (.tmp 12)=_:=hp 2 12 rfl rfl;clear hρ hp;unfold OpRun;go_simp;exact hR _ _ (Below.refl _ _) rfl)
 case o4=>(refine oQ rfl ?_;intro ρ w1 R hcon hfn hρ hb hp hR;have e13:ρ (.tmp 13)=_:=hp 3 13 rfl rfl;clear hρ hp;unfold OpRun;go_simp;(refine (OFn.out _).mono ?_;rintro e wn ⟨a9,rfl,hn9,hbn⟩;exact ⟨_,rfl,hR _ _ hbn ⟨a9,_,rfl,hn9⟩⟩))
 case o5=>(refine oQ rfl ?_;intro ρ w1 R hcon hfn hρ hb hp hR;have e11:ρ (.tmp 11)=_:=hp 1 11 rfl rfl;have f14:=hp 4 14 rfl rfl;obtain ⟨a8,c8,e14,hn8⟩:=f14;clear hρ hp;unfold OpRun;go_simp;(skip;refine (O0.out _ _ _ (H0.out.below (below_trans yb0 hb)) hn8).mono ?_;rintro e wn ⟨a9,c9,b9,d9,rfl,hn9,hm9,hbn⟩;exact ⟨_,rfl,hR _ _ hbn ⟨a9,c9,b9,d9,rfl,hn9,hm9⟩⟩))
 case o6=>(refine oQ rfl ?_;intro ρ w1 R hcon hfn hρ hb hp hR;have f15:=hp 5 15 rfl rfl;clear hρ hp;unfold OpRun;go_simp;exact hR _ _ (Below.refl _ _) f15)
 case o7=>(refine oQ rfl ?_;intro ρ w1 R hcon hfn hρ hb hp hR;have f9:=hp 6 9 rfl rfl;obtain ⟨a8,c8,b8,d8,e9,hn8,hm8⟩:=f9;clear hρ hp;unfold OpRun;go_simp;exact hR _ _ (Below.refl _ _) ⟨a8,c8,rfl,hn8⟩)
 case o8=>(refine oQ rfl ?_;intro ρ w1 R hcon hfn hρ hb hp hR;have f9:=hp 6 9 rfl rfl;obtain ⟨a8,c8,b8,d8,e9,hn8,hm8⟩:=f9;clear hρ hp;unfold OpRun;go_simp;exact hR _ _ (Below.refl _ _) ⟨b8,d8,rfl,hm8⟩)
 case o9=>(refine oQ rfl ?_;intro ρ w1 R hcon hfn hρ hb hp hR;have f16:=hp 7 16 rfl rfl;clear hρ hp;unfold OpRun;go_simp;exact hR _ _ (Below.refl _ _) f16)
 case o10=>(refine oQ rfl ?_;intro ρ w1 R hcon hfn hρ hb hp hR;have f17:=hp 8 17 rfl rfl;clear hρ hp;unfold OpRun;go_simp;exact hR _ _ (Below.refl _ _) f17)
 case after=>
  intro u wn hb hf
  have f5:=hf 9 5 (by omega) rfl
  clear hf
  simp only [putAll,Act.put,List.setIfInBounds_toArray,List.set_cons_zero,List.set_cons_succ,List.drop_succ_cons,List.drop_zero,List.drop_nil]
  obtain ⟨a5,c5,e5,hN5⟩:=f5
  rw [e5]
  have zA1:=zA.below hb
  have zR1:=zR.below hb
  have yb1:=below_trans yb0 hb
  clear zA zR yb0 hb e5 O0
  go_upto_region 2 with fail
  refine wp_region_grow 11 [19,20,21,22,23,24,18,25,26,7,8] [Fact.is (.pointer (some ⟨w.heap.size,1,none⟩)),Fact.is (.slice b (limbs h).length d),Fact.is (.int .i64 (n:Int)),Fact.is (.int .u64 (n:Int)),Fact.li n,Fact.nn q1 r1,Fact.nn q1 r1,Fact.li q1,Fact.li r1,Fact.li q1,Fact.li r1] (by kernel_rfl) (by kernel_rfl) ⟨?o0,?o1,?o2,?o3,?o4,?o5,?o6,?o7,?o8,?o9,?o10,trivial⟩ ?after
  case o0=>(refine oQ rfl ?_;intro ρ w1 R hcon hfn hρ hb hp hR;have e2:ρ (.tmp 2)=.pointer (some ⟨w.heap.size,0,none⟩):=hρ.tmp 2 rfl;clear hρ hp;unfold OpRun;go_simp;exact hR _ _ (Below.refl _ _) rfl)
  case o1=>(refine oQ rfl ?_;intro ρ w1 R hcon hfn hρ hb hp hR;have e19:ρ (.tmp 19)=_:=hp 0 19 rfl rfl;obtain ⟨j0,j1,-⟩:=zA1.below hb;clear hρ hp;unfold OpRun;go_simp;exact hR _ _ (Below.refl _ _) rfl)
  case o2=>(refine oQ rfl ?_;intro ρ w1 R hcon hfn hρ hb hp hR;have e1:ρ (.tmp 1)=.int .i64 (n:Int):=hρ.tmp 1 rfl;clear hρ hp;unfold OpRun;go_simp;exact hR _ _ (Below.refl _ _) rfl)
  case o3=>(refine oQ rfl ?_;intro ρ w1 R hcon hfn hρ hb hp hR;have e21:ρ (.tmp 21)=_:=hp 2 21 rfl rfl;clear hρ hp;unfold OpRun;go_simp;exact hR _ _ (Below.refl _ _) rfl)
  case o4=>(refine oQ rfl ?_;intro ρ w1 R hcon hfn hρ hb hp hR;have e22:ρ (.tmp 22)=_:=hp 3 22 rfl rfl;clear hρ hp;unfold OpRun;go_simp;(refine (OFn.out _).mono ?_;rintro e wn ⟨a9,rfl,hn9,hbn⟩;exact ⟨_,rfl,hR _ _ hbn ⟨a9,_,rfl,hn9⟩⟩))
  case o5=>(refine oQ rfl ?_;intro ρ w1 R hcon hfn hρ hb hp hR;have e20:ρ (.tmp 20)=_:=hp 1 20 rfl rfl;have f23:=hp 4 23 rfl rfl;obtain ⟨a8,c8,e23,hn8⟩:=f23;clear hρ hp;unfold OpRun;go_simp;(skip;refine (O1.out _ _ _ (H1.out.below (below_trans yb1 hb)) hn8).mono ?_;rintro e wn ⟨a9,c9,b9,d9,rfl,hn9,hm9,hbn⟩;exact ⟨_,rfl,hR _ _ hbn ⟨a9,c9,b9,d9,rfl,hn9,hm9⟩⟩))
  case o6=>(refine oQ rfl ?_;intro ρ w1 R hcon hfn hρ hb hp hR;have f24:=hp 5 24 rfl rfl;clear hρ hp;unfold OpRun;go_simp;exact hR _ _ (Below.refl _ _) f24)
  case o7=>(refine oQ rfl ?_;intro ρ w1 R hcon hfn hρ hb hp hR;have f18:=hp 6 18 rfl rfl;obtain ⟨a8,c8,b8,d8,e18,hn8,hm8⟩:=f18;clear hρ hp;unfold OpRun;go_simp;exact hR _ _ (Below.refl _ _) ⟨a8,c8,rfl,hn8⟩)
  case o8=>(refine oQ rfl ?_;intro ρ w1 R hcon hfn hρ hb hp hR;have f18:=hp 6 18 rfl rfl;obtain ⟨a8,c8,b8,d8,e18,hn8,hm8⟩:=f18;clear hρ hp;unfold OpRun;go_simp;exact hR _ _ (Below.refl _ _) ⟨b8,d8,rfl,hm8⟩)
  case o9=>(refine oQ rfl ?_;intro ρ w1 R hcon hfn hρ hb hp hR;have f25:=hp 7 25 rfl rfl;clear hρ hp;unfold OpRun;go_simp;exact hR _ _ (Below.refl _ _) f25)
  case o10=>(refine oQ rfl ?_;intro ρ w1 R hcon hfn hρ hb hp hR;have f26:=hp 8 26 rfl rfl;clear hρ hp;unfold OpRun;go_simp;exact hR _ _ (Below.refl _ _) f26)
  case after=>
   intro u wn hb hf
   have f7:=hf 9 7 (by omega) rfl
   have f8:=hf 10 8 (by omega) rfl
   clear hf
   simp only [putAll,Act.put,List.setIfInBounds_toArray,List.set_cons_zero,List.set_cons_succ,List.drop_succ_cons,List.drop_zero,List.drop_nil]
   obtain ⟨a7,c7,e7,hN7⟩:=f7
   obtain ⟨a8,c8,e8,hN8⟩:=f8
   rw [e7,e8]
   have zR2:=zR1.below hb
   have yb2:=below_trans yb1 hb
   have hM5:=hN5.below hb
   clear zA1 zR1 yb1 hb e7 e8 O1 hN5
   by_cases hz:r1=0
   ·have g1: ¬0<(limbs r1).length:=by rw [hz];decide
    have HZ:=hid (show RR=(q0,q1) by rw [HX.out,if_pos hz])
    clear hz HX
    obtain ⟨k0,k1,f0,f1,-⟩:=id zR2
    go_wp2_with fail
    refine bodyPost_ret (by simp [results,Tryd.results86,go_sem,k0,k1];try rfl) rfl ?_
    rw [HZ.out]
    exact ⟨_,rfl,⟨_,_,_,_,rfl,hM5.put2 zR2 sl_no sl_no _ _,hN7.put2 zR2 sl_no sl_no _ _⟩,below_put2 yb2 (by omega) _ _⟩
   ·have hl:0<(limbs r1).length:=(digs_len_pos 4294967296 (by omega) r1).2 (by omega)
    have HZ:=hid (show RR=(q0,q1+1) by rw [HX.out,if_neg hz])
    clear hz HX
    go_upto_region 5 with (first
     |(go_at_call 21;(with_reducible refine (OF.out _).mono ?_);rintro en w3 ⟨b3,rfl,hN3,hb3⟩)
     |(go_at_call 56;(with_reducible refine (PL.out _ _ _ _ _ (hN7.below hb3) hN3).mono ?_);rintro en w4 ⟨b4,rfl,hN4,hb4⟩))
    have yb4:=below_trans (below_trans yb2 hb3) hb4
    have zR4:=(zR2.below hb3).below hb4
    have hM4:=(hM5.below hb3).below hb4
    obtain ⟨k0,k1,f0,f1,-⟩:=id zR4
    go_wp2_with fail
    refine bodyPost_ret (by simp [results,Tryd.results86,go_sem,k0,k1];try rfl) rfl ?_
    rw [HZ.out]
    exact ⟨_,rfl,⟨_,_,_,_,rfl,hM4.put2 zR4 sl_no sl_no _ _,hN4.put2 zR4 sl_no sl_no _ _⟩,below_put2 yb4 (by omega) _ _⟩
end Go.Proofs.YtehhegbkahnhgaaDoor
