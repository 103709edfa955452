/- ExpoExps: what the proof leans on, part 30 (Lj1 Lj2 Eh6). -/
import Derived.Test.YtehhegbkahnhgaaGreatDoorKExpoExps28
import Derived.Test.YtehhegbkahnhgaaGreatDoorKExpoExps29
set_option linter.unusedVariables false
set_option linter.unusedSimpArgs false
namespace Go.Ulp
open Go.RowKit
theorem read_st2 (A B:Nat) (hA:0<A) (hB:0<B) (mode:Int) (m0:0≤mode) (m1:mode≤4) (l:Nat) (l1:(l:Int)<9218868437227405312) (l2:rdC 1074 A B l≤0) (l3:(l:Int)+1=9218868437227405312∨0<rdC 1074 A B ((l:Int)+1)):
 Rnd 2 (st (A:Int) B) mode ((rdA 1074 A B (if false=true then swM mode else mode) l).1+sgb false) (rdA 1074 A B (if false=true then swM mode else mode) l).2:=by
 have hpos:0<st (A:Int) B:=by
  have e:=st_sign (A:Int) B hB
  have:0<cmpI (st (A:Int) B) 0:=by rw [e];exact (cmpI_gt _ _).2 (by omega)
  exact (cmpI_gt _ _).1 this
 obtain ⟨M,hM⟩:=Int.eq_ofNat_of_zero_le (Int.le_of_lt hpos)
 have hM0:0<M:=by rw [hM] at hpos;exact Int.ofNat_lt.1 hpos
 have e0:(-1076+1074+((2:Nat):Int)).toNat=0:=by decide
 have eM:((M*2^(-1076+1074+((2:Nat):Int)).toNat:Nat):Int)=st (A:Int) B:=by rw [e0,Nat.pow_zero,Nat.mul_one,hM]
 have SC:SameC 2 ((M*2^(-1076+1074+((2:Nat):Int)).toNat:Nat):Int) 1074 A B:=by
  rw [eM]
  constructor
  ·intro r _
   rw [cR_st _ _ hB,mul_1075]
   unfold rdC
   generalize (A:Int)*pw 1074=Y
   rw [Int.mul_assoc 2,cmpI_pos_mul _ _ 2 (by omega)]
  ·intro r _
   rw [cM_st _ _ hB,mul_1075]
   unfold rdM
   generalize (A:Int)*pw 1074=Y
   rfl
 have r:=read_sg false M (-1076) mode 1074 A B 2 l m0 m1 hM0 (by decide) SC l1 l2 l3
 have n:=number_rnd false M (-1076) mode 2 m0 m1 (fun h=>by omega) (by decide)
 have e9: ∀y:Int,sg false y=y:=fun y=>rfl
 rw [eM,r.1,r.2,e9] at n
 exact n
theorem far_big {mode:Int} {w w':World} {e:Ending} (m0:0≤mode) (m1:mode≤4) (h:RetRB false (rdNum 1 1 400) (rdDen 1 400) mode w e w'):RetX w (bigX mode) true e w':=by
 obtain ⟨l,l0,l1,l2,l3,l4,l5⟩:=h
 obtain ⟨k,rfl⟩:=Int.eq_ofNat_of_zero_le l0
 have hA:0<rdNum 1 1 400:=by unfold rdNum;exact Nat.mul_pos (by omega) (Nat.pow_pos (by omega))
 have hB:0<rdDen 1 400:=by unfold rdDen;exact Nat.pow_pos (by omega)
 have r:=read_st2 _ _ hA hB mode m0 m1 k l1 l2 l3
 obtain ⟨F,hF⟩: ∃F,F=2100:=⟨_,rfl⟩
 obtain ⟨z,hz⟩: ∃z,z=1075:=⟨_,rfl⟩
 have hV:((2^F:Nat):Int)≤st (rdNum 1 1 400:Int) (rdDen 1 400):=by
  obtain ⟨t,ht⟩: ∃t:Nat,t=400:=⟨_,rfl⟩
  have eB:rdDen 1 400=1:=by unfold rdDen rkc;rw [show (-(min (max (400:Int) (-2500-((1:Nat):Int))) 2500)).toNat=0 by omega,Nat.pow_zero]
  have eA:rdNum 1 1 400=10^t:=by unfold rdNum rkc;rw [show ((min (max (400:Int) (-2500-((1:Nat):Int))) 2500)).toNat=t by omega,Nat.one_mul]
  rw [eA,eB]
  unfold st
  have e1:((10^t:Nat):Int)*pw 1075/((1:Nat):Int)=((10^t*2^z:Nat):Int):=by
   rw [←hz,pw_nat,←Int.natCast_mul]
   exact Int.ediv_one _
  rw [e1]
  have a:2^(3*t)≤10^t:=by rw [Nat.pow_mul];exact Nat.pow_le_pow_left (by omega) _
  have b:2^F≤10^t*2^z:=by
   refine Nat.le_trans ?_ (Nat.mul_le_mul_right _ a)
   rw [←Nat.pow_add]
   exact Nat.pow_le_pow_right (by omega) (by omega)
  split<;>omega
 rw [rnd_big r F hF hV,rnd_big_ch r F hF hV] at l4
 exact ⟨l4,l5⟩
theorem far_tiny {mode:Int} {w w':World} {e:Ending} (m0:0≤mode) (m1:mode≤4) (h:RetRB false (rdNum 1 1 (-400)) (rdDen 1 (-400)) mode w e w'):RetX w (vX 1 mode) true e w':=by
 obtain ⟨l,l0,l1,l2,l3,l4,l5⟩:=h
 obtain ⟨k,rfl⟩:=Int.eq_ofNat_of_zero_le l0
 have hA:0<rdNum 1 1 (-400):=by unfold rdNum;exact Nat.mul_pos (by omega) (Nat.pow_pos (by omega))
 have hB:0<rdDen 1 (-400):=by unfold rdDen;exact Nat.pow_pos (by omega)
 have r:=read_st2 _ _ hA hB mode m0 m1 k l1 l2 l3
 obtain ⟨z,hz⟩: ∃z,z=1075:=⟨_,rfl⟩
 have hV:st (rdNum 1 1 (-400):Int) (rdDen 1 (-400))=1:=by
  obtain ⟨t,ht⟩: ∃t:Nat,t=400:=⟨_,rfl⟩
  have eB:rdDen 1 (-400)=10^t:=by unfold rdDen rkc;rw [show (-(min (max (-400:Int) (-2500-((1:Nat):Int))) 2500)).toNat=t by omega]
  have eA:rdNum 1 1 (-400)=1:=by unfold rdNum rkc;rw [show ((min (max (-400:Int) (-2500-((1:Nat):Int))) 2500)).toNat=0 by omega,Nat.pow_zero,Nat.one_mul]
  rw [eA,eB]
  have a:2^(3*t)≤10^t:=by rw [Nat.pow_mul];exact Nat.pow_le_pow_left (by omega) _
  have b:2^z<2^(3*t):=Nat.pow_lt_pow_right (by omega) (by omega)
  exact st_tiny hz (by omega) (by omega)
 rw [hV] at r
 rw [vX_of m0 m1 r,rnd_odd r (by decide)] at l4
 exact ⟨l4,l5⟩
def FlD (D:Dy) (q:Int):Prop:= ∃(X:Int) (n:Nat),nrm X (-(n:Int))=D∧q=X/pw n
theorem flD_bd {D:Dy} {q:Int} (h:FlD D q) (h0:D.1<0) (k:Nat) (hk: ¬cmpD D (nrm (-(k:Int)) 0)<0): -(k:Int)≤q∧q≤0:=by
 obtain ⟨X,n,hX,rfl⟩:=h
 have hp:=pw_pos n
 have c:=cmp_nrm X (-(n:Int)) (-(k:Int)) 0 (-(n:Int)) (.inl (Int.le_refl _)) (.inl (by omega))
 rw [hX] at c
 rw [←c,cmpI_lt] at hk
 unfold sc at hk
 rw [show (-(n:Int)- -(n:Int)).toNat=0 by omega,show ((0:Int)- -(n:Int)).toNat=n by omega,pw_zero,Int.mul_one] at hk
 have hneg:X<0:=by
  have s:=sgn_nrm X (-(n:Int))
  rw [hX] at s
  have:sgn D.1<0:=(cmpI_lt _ _).2 h0
  rw [s] at this
  exact (cmpI_lt _ _).1 this
 refine ⟨Int.le_ediv_of_mul_le hp (by omega),?_⟩
 have:X/pw n<0:=Int.ediv_neg_of_neg_of_pos hneg hp
 omega
theorem QL.zvI {tq ti:TypeId} {w:World} {g:Nat} {x:Int} {a:Option Addr} {c:Nat} {k:Int} (h:QL tq w g (zneg x) (.slice a (zl x).length c) k) (n:Nz ti w a c (zl x)):ZV tq ti w g x:=⟨a,c,h.1,n⟩
end Go.Ulp
namespace Go.Proofs.YtehhegbkahnhgaaGreatDoor
open Go.RowKit Go.Ulp
set_option maxHeartbeats 4000000
set_option maxRecDepth 100000
theorem farBits_any (k mode:Int) (m0:0≤mode) (m1:mode≤4) (w:World) (hk: -4000≤k∧k≤4000):
 Calls Tryz.prog 53 #[.bool false,.int .i64 k,.int .i64 mode] w (RetRB false (rdNum 1 1 k) (rdDen 1 k) mode w):=by
 have RB:=hid (show ∀w,Calls Tryz.prog 96 #[.bool false,.string (bsOf [49]),.int .i64 k,.int .i64 mode] w (RetRB false (rdNum 1 1 k) (rdDen 1 k) mode w) from fun w=>readBits_any false [49] k mode w (by intro b hb;rw [List.mem_singleton.1 hb];rfl) (by decide) (by decide) ⟨by omega,by omega⟩ m0 m1)
 clear hk m0 m1
 have hs:({data:= #[49]}:ByteArray)=bsOf [49]:=rfl
 go_enter Tryz.func53,Tryz.ntmps53
 go_wp2_with (go_at_call 96;(with_reducible refine (RB.out _).mono ?_);rintro en w1 ⟨l,l0,l1,l2,l3,e1,hb1⟩;generalize hX:(rdA 1074 (rdNum 1 1 k) (rdDen 1 k) (if false=true then swM mode else mode) l).1+sgb false=X at e1;generalize hC:(rdA 1074 (rdNum 1 1 k) (rdDen 1 k) (if false=true then swM mode else mode) l).2=C at e1;have HX:=hid hX;have HC:=hid hC;clear hX hC;subst e1)
 go_ret2
 exact ⟨l,l0,l1,l2,l3,by rw [HX.out,HC.out];rfl,hb1⟩
theorem qintn_any (k:Int) (hk: -1000≤k∧k≤1000) (w:World):Calls Tryz.prog 41 #[.int .i64 k] w (RetQD 3 w (nrm k 0) 10 0):=by
 have ON:=hid (fun w=>zNI k (by omega) (by omega) w)
 have hb:k.natAbs<2^10:=by show k.natAbs<1024;omega
 have yb:=below_alloc w (.cells #[.bool false,.slice none 0 0,.int .i64 0] 49)
 have zR:QL 49 (w.alloc (.cells #[.bool false,.slice none 0 0,.int .i64 0] 49)) w.heap.size false (.slice none 0 0) 0:=QL.made rfl
 clear hk
 go_enter Tryz.func41,Tryz.ntmps41
 go_wp2_with (go_at_call 38;(with_reducible refine (ON.out _).mono ?_);rintro en w1 ⟨v1,rfl,⟨a1,c1,rfl,n1⟩,hb1⟩;have zR2:=zR.below hb1;obtain ⟨⟨k0,k1,f0,f1,hs2⟩,k2,f2⟩:=id zR2)
 refine bodyPost_ret (by simp [results,Tryz.results41,go_sem,k0,k1,k2];try rfl) rfl ?_
 exact ⟨_,rfl,⟨k,0,a1,c1,rfl,n1.set3Q zR2 (by decide) _ _ _,by rw [show (-((0:Nat):Int))=0 by decide],hb,Nat.le_refl _⟩,Go.Ulp.Below.put3 (below_trans yb hb1) (Nat.le_refl _) _ _ _⟩
theorem floorQ_any (D:Dy) (v:Value) (w:World) (hv:QD 3 w D 1200 1100 v):Calls Tryz.prog 55 #[v] w (fun en w'=> ∃q,FlD D q∧RetZD 3 w q en w'):=by
 obtain ⟨X,n,a0,c0,rfl,n0,hD,hX,hn⟩:=hv
 have lX:(zl X).length≤4000000000:=Nat.le_trans (zl_len_bits _ _ hX) (by omega)
 have lW:(zl (pw n)).length≤1000000000:=Nat.le_trans (zl_len_pw n) (by omega)
 have hp:=pw_pos n
 have ZP:=hid (fun w=>zpowD n w (by omega))
 have DV:=hid (fun v u w h k=>zdivD v u X (pw n) w h k lX lW (by omega))
 have HF:=hid (show FlD D (X/pw n) from ⟨X,n,hD,rfl⟩)
 clear lX lW hp hD hX hn
 generalize X%pw n=R at *
 generalize X/pw n=Q at *
 generalize pw n=B at *
 obtain ⟨W0,hW0⟩: ∃W0,W0=(w.alloc (.cells #[.bool (zneg X),.slice a0 (zl X).length c0,.int .i64 (n:Int)] 49)).alloc (.cells #[.bool false,.slice none 0 0] 47):=⟨_,rfl⟩
 have yb0:Below w.heap.size w W0:=by rw [hW0];(repeat' first|(with_reducible first|assumption|apply bR|apply bA|apply bN|apply bD|apply bL|apply bS)|refine bT ?_ (by assumption)|go_size)
 have zA:QL 49 W0 w.heap.size (zneg X) (.slice a0 (zl X).length c0) (n:Int):=by rw [hW0];exact (QL.made rfl).below (below_alloc _ _)
 have zR:ZL 47 W0 (w.heap.size+1) false (.slice none 0 0):=by rw [hW0];exact ZL.made (by simp)
 have nA:=n0.below yb0
 have zv5:=zA.zvI nA
 clear n0 nA
 go_enter Tryz.func55,Tryz.ntmps55
 go_upto_region 1 with fail
 rw [←hW0]
 clear hW0
 refine wp_region_growL 11 8 [6,7,8,9,10,11,5,12,13,3,4] [Fact.is (.pointer (some ⟨w.heap.size,0,none⟩)),Fact.z 3 (X),Fact.is (.pointer (some ⟨w.heap.size,2,none⟩)),Fact.is (.int .i64 (n:Int)),Fact.z 3 B,Fact.z2 3 Q R,Fact.z2 3 Q R,Fact.z 3 Q,Fact.z 3 R,Fact.z0 W0.heap.size 47,Fact.z0 W0.heap.size 47] [9,10] (by kernel_rfl) (by kernel_rfl) rfl ⟨?o0,?o1,?o2,?o3,?o4,?o5,?o6,?o7,?o8,?o9,?o10,trivial⟩ ?late (fun d _ _ _ _ h=>by cases d<;>exact h) ?after
 case o0=>(refine oQF rfl ?_;intro ρ w1 R hcon hfn hρ hb hp hR;have e1:ρ (.tmp 1)=.pointer (some ⟨w.heap.size,0,none⟩):=hρ.tmp 1 rfl;replace hR:=fun v w2 h1 h2=>hR v w2 h1 h2 (fun h=>absurd h (by decide));clear hρ hp;unfold OpRun;go_simp;exact hR _ _ (Below.refl _ _) rfl)
 case o1=>(refine oQF rfl ?_;intro ρ w1 R hcon hfn hρ hb hp hR;have e6:ρ (.tmp 6)=_:=hp 0 6 rfl rfl;obtain ⟨ya9,yc9,yj9,yn9⟩:=ZV.below zv5 hb;obtain ⟨j90,j91,-⟩:=yj9;replace hR:=fun v w2 h1 h2=>hR v w2 h1 h2 (fun h=>absurd h (by decide));clear hρ hp;unfold OpRun;go_simp;exact hR _ _ (Below.refl _ _) ⟨ya9,yc9,rfl,yn9⟩)
 case o2=>(refine oQF rfl ?_;intro ρ w1 R hcon hfn hρ hb hp hR;have e1:ρ (.tmp 1)=.pointer (some ⟨w.heap.size,0,none⟩):=hρ.tmp 1 rfl;replace hR:=fun v w2 h1 h2=>hR v w2 h1 h2 (fun h=>absurd h (by decide));clear hρ hp;unfold OpRun;go_simp;exact hR _ _ (Below.refl _ _) rfl)
 case o3=>(refine oQF rfl ?_;intro ρ w1 R hcon hfn hρ hb hp hR;have e8:ρ (.tmp 8)=_:=hp 2 8 rfl rfl;obtain ⟨-,j12,-⟩:=zA.below hb;replace hR:=fun v w2 h1 h2=>hR v w2 h1 h2 (fun h=>absurd h (by decide));clear hρ hp;unfold OpRun;go_simp;exact hR _ _ (Below.refl _ _) rfl)
 case o4=>(refine oQF rfl ?_;intro ρ w1 R hcon hfn hρ hb hp hR;have e9:ρ (.tmp 9)=_:=hp 3 9 rfl rfl;replace hR:=fun v w2 h1 h2=>hR v w2 h1 h2 (fun h=>absurd h (by decide));clear hρ hp;unfold OpRun;go_simp;(refine (ZP.out _).mono ?_;rintro e wn ⟨v9,rfl,hv9,hbn⟩;exact ⟨_,rfl,hR _ _ hbn hv9⟩))
 case o5=>(refine oQF rfl ?_;intro ρ w1 R hcon hfn hρ hb hp hR;have f7:=hp 1 7 rfl rfl;have f10:=hp 4 10 rfl rfl;replace hR:=fun v w2 h1 h2=>hR v w2 h1 h2 (fun h=>absurd h (by decide));clear hρ hp;unfold OpRun;go_simp;(refine (DV.out _ _ _ f7 f10).mono ?_;rintro e wn ⟨v9,rfl,hv9,hbn⟩;exact ⟨_,rfl,hR _ _ hbn hv9⟩))
 case o6=>(refine oQF rfl ?_;intro ρ w1 R hcon hfn hρ hb hp hR;have f11:=hp 5 11 rfl rfl;replace hR:=fun v w2 h1 h2=>hR v w2 h1 h2 (fun h=>absurd h (by decide));clear hρ hp;unfold OpRun;go_simp;exact hR _ _ (Below.refl _ _) f11)
 case o7=>(refine oQF rfl ?_;intro ρ w1 R hcon hfn hρ hb hp hR;have f5:=hp 6 5 rfl rfl;obtain ⟨a97,b97,e97,h97,k97⟩:=ZD2.parts f5;replace hR:=fun v w2 h1 h2=>hR v w2 h1 h2 (fun h=>absurd h (by decide));clear hρ hp;unfold OpRun;go_simp;exact hR _ _ (Below.refl _ _) h97)
 case o8=>(refine oQF rfl ?_;intro ρ w1 R hcon hfn hρ hb hp hR;have f5:=hp 6 5 rfl rfl;obtain ⟨a97,b97,e97,h97,k97⟩:=ZD2.parts f5;replace hR:=fun v w2 h1 h2=>hR v w2 h1 h2 (fun h=>absurd h (by decide));clear hρ hp;unfold OpRun;go_simp;exact hR _ _ (Below.refl _ _) k97)
 case o9=>(refine oQF rfl ?_;intro ρ w1 R hcon hfn hρ hb hp hR;clear hρ hp;unfold OpRun;go_simp;exact hR _ _ (below_alloc _ _) ⟨_,rfl,hb.size,ZL.made rfl⟩ (fun _=>⟨_,rfl,Nat.le_refl _,by simp⟩))
 case o10=>(refine oQF rfl ?_;intro ρ w1 R hcon hfn hρ hb hp hR;clear hρ hp;unfold OpRun;go_simp;exact hR _ _ (below_alloc _ _) ⟨_,rfl,hb.size,ZL.made rfl⟩ (fun _=>⟨_,rfl,Nat.le_refl _,by simp⟩))
 case late=>
  intro o ho
  simp only [List.getElem?_cons_succ,List.getElem?_cons_zero,Option.some.injEq] at ho
  subst ho
  refine ⟨rfl,?_⟩
  intro ρ w1 hρ hb hp
  have f5:=hp 6 5 rfl rfl
  obtain ⟨a97,b97,e97,h97,k97⟩:=ZD2.parts f5
  refine ⟨_,?_,k97⟩
  intro w2
  have hcon:=hρ.con
  go_simp
  try rfl
 case after=>
  intro u wn hb hf hd
  have f12:=hf 7 12 (by omega) rfl
  have f13:=hf 8 13 (by omega) rfl
  have f3:=hf 9 3 (by omega) rfl
  have f4:=hf 10 4 (by omega) rfl
  have d3_4:u 3≠u 4:=hd 9 10 3 4 (by omega) (by omega) (by omega) rfl rfl rfl rfl
  clear hf hd
  simp only [putAll,Act.put,List.setIfInBounds_toArray,List.set_cons_zero,List.set_cons_succ,List.drop_succ_cons,List.drop_zero,List.drop_nil]
  obtain ⟨xa1,xc1,xe1,xn1⟩:=f12
  obtain ⟨xa2,xc2,xe2,xn2⟩:=f13
  obtain ⟨gv3,eg1,hg1,zz1⟩:=f3
  obtain ⟨gv4,eg2,hg2,zz2⟩:=f4
  have gne:gv3≠gv4:=by intro h;apply d3_4;rw [eg1,eg2,h]
  rw [xe1,xe2,eg1,eg2]
  clear xe1 xe2 eg1 eg2 d3_4
  have zst:=zv_store2 (by decide) hb hg1 hg2 gne zz1 zz2 xn1 xn2
  obtain ⟨k0,k1,kf0,kf1,-⟩:=id zz1
  obtain ⟨l0,l1,lf0,lf1,-⟩:=id zz2
  go_upto_region 2 with fail
  clear k0 k1 kf0 kf1 l0 l1 lf0 lf1 zz1 zz2 xn1 xn2 hb
  refine wp_worldZ (fun WW=>Below _ _ WW∧ZV _ _ WW _ _∧ZV _ _ WW _ _) zst ?_
  clear zst
  intro W3 ⟨y3,z6,z7⟩
  replace yb0:=below_trans yb0 y3
  replace zR:=zR.below y3
  clear y3 hg1 hg2 gne ZP DV zv5 zA z7
  obtain ⟨a6,c6,⟨i0,i1,-⟩,m6⟩:=id z6
  obtain ⟨k0,k1,f0,f1,s8⟩:=id zR
  clear z6
  go_wp2_with fail
  refine bodyPost_ret (by simp [results,Tryz.results55,go_sem,k0,k1];try rfl) rfl ?_
  exact ⟨Q,HF.out,_,rfl,⟨a6,c6,rfl,m6.st2 s8 (by decide) _ _⟩,(yb0.setCell (by first|omega|(simp;done)|(simp;omega)) _).setCell (by first|omega|(simp;done)|(simp;omega)) _⟩
end Go.Proofs.YtehhegbkahnhgaaGreatDoor
namespace Go.Ulp
open Go.RowKit
theorem nrm_sg9 {D:Dy} (hI:IsN D):nrm (sg (decide (D.1<0)) (D.1.natAbs:Int)) D.2=D:=by rw [sg_self];exact nrm_of_isN D hI
structure EbIn (D:Dy) (q:Nat):Prop where
 i:IsN D
 m0:D.1≠0
 m1:D.1.natAbs<2^1280
 e0: -10000≤D.2
 hq:q=800
 y1:dyQ D.1.natAbs D.2≤(q:Rat)
theorem sz_pow9 (t:Nat) (x:Int) (h:x.natAbs≤10^(t+1650)) (ht:t≤3000000000):(zl x).length≤4000000000:=by
 have:=zl_le10I h
 omega
end Go.Ulp
namespace Go.Proofs.YtehhegbkahnhgaaGreatDoor
open Go.RowKit Go.Ulp
set_option maxHeartbeats 4000000
set_option maxRecDepth 100000
theorem ent_xb9 (p:Int) (cp:Value) (w:World):Sem.run Tryz.prog (callFunc 56 #[.int .i64 p,cp]) w=.ok (.enter 56 #[.int .i64 p,cp]) w:=by
 simp [callFunc,go_sem,Tryz.func56,Tryz.f56]
theorem ent_lsb9 (p:Int) (cp:Value) (w:World):Sem.run Tryz.prog (callFunc 59 #[.int .i64 p,cp]) w=.ok (.enter 59 #[.int .i64 p,cp]) w:=by
 simp [callFunc,go_sem,Tryz.func59,Tryz.f59]
theorem ebR_any (D:Dy) (q t:Nat) (v:Value) (w:World) (hv:QD 3 w D 400000 200000 v) (H:EbIn D q) (t0:20≤t) (t1:t≤3000000000):
 Calls Tryz.prog 57 #[v,.int .i64 (t:Int)] w (RetGI 3 w (GoodXr false (ngD D) (dyQ D.1.natAbs D.2)) t):=by
 have hv2:=hv
 rw [←nrm_sg9 H.i] at hv2
 have h8:dyQ D.1.natAbs D.2≤((800:Nat):Rat):=by have:=H.y1;rw [H.hq] at this;exact this
 refine (eBounds_any (decide (D.1<0)) D.1.natAbs D.2 t v w hv2 (by have:=H.m0;omega) h8 t0 t1).mono (fun en w' h=>?_)
 obtain ⟨x,hx,v1,e1,p1,b1⟩:=h
 have g:=goodR_o D.1.natAbs D.2 (decide (D.1<0)) t x q (by have:=H.m0;omega) H.m1 H.e0 H.hq H.y1 hx false
 rw [show oD false (10^t)=0 from rfl,Int.sub_zero,Int.sub_zero] at g
 exact ⟨_,g,v1,e1,p1.pi,b1⟩
theorem xbC9_any (D:Dy) (q t g:Nat) (w:World) (hz:QVr 49 3 w g D 400000 200000) (H:EbIn D q) (t0:20≤t) (t1:t≤3000000000):
 Calls Tryz.prog 56 #[.int .i64 (t:Int),.pointer (some ⟨g,0,none⟩)] w (RetGI 3 w (GoodXr false (ngD D) (dyQ D.1.natAbs D.2)) t):=by
 have EB:=hid (fun v w h=>ebR_any D q t v w h H t0 t1)
 have yb0:=below_alloc w (.cells #[.bool false,.slice none 0 0,.bool false,.slice none 0 0] 63)
 have zR:BC 63 (w.alloc (.cells #[.bool false,.slice none 0 0,.bool false,.slice none 0 0] 63)) w.heap.size false (.slice none 0 0) false (.slice none 0 0):=BC.made rfl
 obtain ⟨n,s,k,q1,q2⟩:=hz.below yb0
 obtain ⟨⟨j0,j1,-⟩,j2,-⟩:=id q1
 have HQ:=hid q2
 clear hz q1 q2 H
 go_enter Tryz.func56,Tryz.ntmps56
 go_wp2_with (go_at_call 57;(with_reducible refine (EB.out _ _ HQ.out).mono ?_);rintro en w2 ⟨y,hgy,v2,rfl,⟨a2,c2,b2,d2,rfl,m1,m2⟩,hb2⟩;have zR2:=zR.below hb2;obtain ⟨⟨k0,k1,k2,k3⟩,f0,f1,f2,f3,s8⟩:=id zR2;have HG:=hid hgy;clear hgy)
 refine bodyPost_ret (by simp [results,Tryz.results56,go_sem,k0,k1,k2,k3];try rfl) rfl ?_
 exact ⟨y,HG.out,_,rfl,⟨a2,c2,b2,d2,rfl,m1.pu4 s8 (by decide) _ _ _ _,m2.pu4 s8 (by decide) _ _ _ _⟩,below_pu4 (below_trans yb0 hb2) (Nat.le_refl _) _ _ _ _⟩
theorem lsC9_any (D:Dy) (q t g:Nat) (w:World) (hz:QVr 49 3 w g D 400000 200000) (H:EbIn D q) (t0:20≤t) (t1:t≤3000000000):
 Calls Tryz.prog 59 #[.int .i64 (t:Int),.pointer (some ⟨g,0,none⟩)] w (RetGI 3 w (GoodXr true (ngD D) (dyQ D.1.natAbs D.2)) t):=by
 have EB:=hid (fun v w h=>ebR_any D q t v w h H t0 t1)
 have TN:=hid (fun w=>zTenN t w (by omega))
 have lT:(zl ((10^t:Nat):Int)).length≤4000000000:=by have:=zl_le10 (Nat.le_refl (10^t));omega
 have HG1:=hid (fun x h=>goodXr_sz false (ngD D) (dyQ D.1.natAbs D.2) t x h)
 have HG2:=hid (show ∀x,GoodXr false (ngD D) (dyQ D.1.natAbs D.2) t x→GoodXr true (ngD D) (dyQ D.1.natAbs D.2) t (x.1-((10^t:Nat):Int),x.2-((10^t:Nat):Int)) from fun x ⟨b,h1,h2,h3,h4,h5⟩=>by
  rw [show oD false (10^t)=0 from rfl,Int.sub_zero,Int.sub_zero] at h5
  exact ⟨b,h1,h2,h3,h4,by rw [h5];rfl⟩)
 have SUQ:=hid (fun v u x w h k hs=>zsubD v u x ((10^t:Nat):Int) w h k (sz_pow9 t x hs t1) lT)
 have yb0:=below_alloc w (.cells #[.bool false,.slice none 0 0,.bool false,.slice none 0 0] 63)
 have zR:BC 63 (w.alloc (.cells #[.bool false,.slice none 0 0,.bool false,.slice none 0 0] 63)) w.heap.size false (.slice none 0 0) false (.slice none 0 0):=BC.made rfl
 obtain ⟨n,s,k,q1,q2⟩:=hz.below yb0
 obtain ⟨⟨j0,j1,-⟩,j2,-⟩:=id q1
 have HQ:=hid q2
 clear hz q1 q2 H lT
 go_enter Tryz.func59,Tryz.ntmps59
 go_upto_region 2 with (go_at_call 57;(with_reducible refine (EB.out _ _ HQ.out).mono ?_);rintro en w2 ⟨⟨x1,x2⟩,hgy,v2,rfl,⟨a2,c2,b2,d2,rfl,m1,m2⟩,hb2⟩)
 obtain ⟨hs1,hs2⟩:=HG1.out _ hgy
 have HG:=hid (HG2.out _ hgy)
 simp only at hs1 hs2 m1 m2 HG
 have SU1:=hid (fun v u w h k=>SUQ.out v u x1 w h k hs1)
 have SU2:=hid (fun v u w h k=>SUQ.out v u x2 w h k hs2)
 clear hs1 hs2 HG1 HG2 SUQ hgy EB HQ j0 j1 j2
 refine wp_worldZ (fun WW=>Below w.heap.size w WW∧BC 63 WW w.heap.size false (.slice none 0 0) false (.slice none 0 0)∧BC 63 WW w2.heap.size (zneg x1) (.slice a2 (zl x1).length c2) (zneg x2) (.slice b2 (zl x2).length d2)∧Nz 3 WW a2 c2 (zl x1)∧Nz 3 WW b2 d2 (zl x2)) ⟨below_trans (below_trans yb0 hb2) (below_alloc _ _),(zR.below hb2).below (below_alloc _ _),BC.made rfl,m1.below (below_alloc _ _),m2.below (below_alloc _ _)⟩ ?_
 obtain ⟨g4,hg4⟩: ∃g,g=w2.heap.size:=⟨_,rfl⟩
 rw [←hg4]
 clear zR yb0 hb2 m1 m2 hg4
 intro W2 ⟨yb2,zR,z4,m1,m2⟩
 obtain ⟨T,hT⟩: ∃T:Nat,T=10^t:=⟨_,rfl⟩
 rw [←hT] at TN HG SU1 SU2
 clear hT
 go_upto_region 3 with (go_at_call 60;(with_reducible refine (TN.out _).mono ?_);rintro en w3 ⟨v3,rfl,⟨a3,c3,rfl,n3⟩,hb3⟩)
 refine wp_worldZ (fun WW=>Below w.heap.size w WW∧BC 63 WW w.heap.size false (.slice none 0 0) false (.slice none 0 0)∧BC 63 WW g4 (zneg x1) (.slice a2 (zl x1).length c2) (zneg x2) (.slice b2 (zl x2).length d2)∧Nz 3 WW a2 c2 (zl x1)∧Nz 3 WW b2 d2 (zl x2)∧ZV 47 3 WW w3.heap.size (T:Int)) ⟨below_trans (below_trans yb2 hb3) (below_alloc _ _),(zR.below hb3).below (below_alloc _ _),(z4.below hb3).below (below_alloc _ _),(m1.below hb3).below (below_alloc _ _),(m2.below hb3).below (below_alloc _ _),zv_made n3 _ rfl⟩ ?_
 obtain ⟨g5,hg5⟩: ∃g,g=w3.heap.size:=⟨_,rfl⟩
 rw [←hg5]
 clear zR z4 yb2 hb3 m1 m2 n3 hg5
 intro W3 ⟨yb3,zR,z4,m1,m2,z5⟩
 refine wp_region_grow 9 [11,12,13,14,15,16,17,18,19] [Fact.is (.pointer (some ⟨g4,0,none⟩)),Fact.z 3 x1,Fact.z 3 ((T:Int)),Fact.z 3 (x1-(T:Int)),Fact.is (.pointer (some ⟨g4,2,none⟩)),Fact.z 3 x2,Fact.z 3 ((T:Int)),Fact.z 3 (x2-(T:Int)),Fact.pi 3 (x1-(T:Int),x2-(T:Int))] (by kernel_rfl) (by kernel_rfl) ⟨?o0,?o1,?o2,?o3,?o4,?o5,?o6,?o7,?o8,trivial⟩ ?after
 case o0=>(refine oQ rfl ?_;intro ρ w1 R hcon hfn hρ hb hp hR;have e4:ρ (.tmp 4)=.pointer (some ⟨g4,0,none⟩):=hρ.tmp 4 rfl;clear hρ hp;unfold OpRun;go_simp;exact hR _ _ (Below.refl _ _) rfl)
 case o1=>(refine oQ rfl ?_;intro ρ w1 R hcon hfn hρ hb hp hR;have e11:ρ (.tmp 11)=_:=hp 0 11 rfl rfl;obtain ⟨⟨q0,q1,q2,q3⟩,-⟩:=z4.below hb;clear hρ hp;unfold OpRun;go_simp;exact hR _ _ (Below.refl _ _) ⟨a2,c2,rfl,m1.below hb⟩)
 case o2=>(refine oQ rfl ?_;intro ρ w1 R hcon hfn hρ hb hp hR;have e5:ρ (.tmp 5)=.pointer (some ⟨g5,0,none⟩):=hρ.tmp 5 rfl;obtain ⟨ya9,yc9,yj9,yn9⟩:=ZV.below z5 hb;obtain ⟨j90,j91,-⟩:=yj9;clear hρ hp;unfold OpRun;go_simp;exact hR _ _ (Below.refl _ _) ⟨ya9,yc9,rfl,yn9⟩)
 case o3=>(refine oQ rfl ?_;intro ρ w1 R hcon hfn hρ hb hp hR;have f12:=hp 1 12 rfl rfl;have f13:=hp 2 13 rfl rfl;clear hρ hp;unfold OpRun;go_simp;(refine (SU1.out _ _ _ f12 f13).mono ?_;rintro e wn ⟨v9,rfl,hv9,hbn⟩;exact ⟨_,rfl,hR _ _ hbn hv9⟩))
 case o4=>(refine oQ rfl ?_;intro ρ w1 R hcon hfn hρ hb hp hR;have e4:ρ (.tmp 4)=.pointer (some ⟨g4,0,none⟩):=hρ.tmp 4 rfl;clear hρ hp;unfold OpRun;go_simp;exact hR _ _ (Below.refl _ _) rfl)
 case o5=>(refine oQ rfl ?_;intro ρ w1 R hcon hfn hρ hb hp hR;have e15:ρ (.tmp 15)=_:=hp 4 15 rfl rfl;obtain ⟨⟨q0,q1,q2,q3⟩,-⟩:=z4.below hb;clear hρ hp;unfold OpRun;go_simp;exact hR _ _ (Below.refl _ _) ⟨b2,d2,rfl,m2.below hb⟩)
 case o6=>(refine oQ rfl ?_;intro ρ w1 R hcon hfn hρ hb hp hR;have e5:ρ (.tmp 5)=.pointer (some ⟨g5,0,none⟩):=hρ.tmp 5 rfl;obtain ⟨ya9,yc9,yj9,yn9⟩:=ZV.below z5 hb;obtain ⟨j90,j91,-⟩:=yj9;clear hρ hp;unfold OpRun;go_simp;exact hR _ _ (Below.refl _ _) ⟨ya9,yc9,rfl,yn9⟩)
 case o7=>(refine oQ rfl ?_;intro ρ w1 R hcon hfn hρ hb hp hR;have f16:=hp 5 16 rfl rfl;have f17:=hp 6 17 rfl rfl;clear hρ hp;unfold OpRun;go_simp;(refine (SU2.out _ _ _ f16 f17).mono ?_;rintro e wn ⟨v9,rfl,hv9,hbn⟩;exact ⟨_,rfl,hR _ _ hbn hv9⟩))
 case o8=>(refine oQ rfl ?_;intro ρ w1 R hcon hfn hρ hb hp hR;have f14:=hp 3 14 rfl rfl;have f18:=hp 7 18 rfl rfl;obtain ⟨a91,c91,e91,n91⟩:=f14;obtain ⟨a92,c92,e92,n92⟩:=f18;clear hρ hp;unfold OpRun;go_simp;exact hR _ _ (Below.refl _ _) ⟨a91,c91,a92,c92,rfl,n91,n92⟩)
 case after=>
  intro u wn hb hf
  have f19:=hf 8 19 (by omega) rfl
  clear hf
  simp only [putAll,Act.put,List.setIfInBounds_toArray,List.set_cons_zero,List.set_cons_succ,List.drop_succ_cons,List.drop_zero,List.drop_nil]
  obtain ⟨a9,c9,b9,d9,e19,n91,n92⟩:=f19
  simp only at e19 n91 n92
  rw [e19]
  clear e19
  have zR2:=zR.below hb
  have yb4:=below_trans yb3 hb
  obtain ⟨⟨k0,k1,k2,k3⟩,f0,f1,f2,f3,s8⟩:=id zR2
  clear zR z4 m1 m2 z5 yb3 hb SU1 SU2 TN
  go_wp2_with fail
  refine bodyPost_ret (by simp [results,Tryz.results59,go_sem,k0,k1,k2,k3];try rfl) rfl ?_
  exact ⟨_,HG.out,_,rfl,⟨a9,c9,b9,d9,rfl,n91.pu4 s8 (by decide) _ _ _ _,n92.pu4 s8 (by decide) _ _ _ _⟩,below_pu4 yb4 (Nat.le_refl _) _ _ _ _⟩
theorem xbBy_any (D:Dy) (q t0:Nat) (mode:Int) (g:Nat) (w:World) (hz:QVr 49 3 w g D 400000 200000) (H:EbIn D q) (h0:20≤t0) (h1:t0≤2000) (m0:0≤mode) (m1:mode≤4):
 Calls Tryz.prog 42 #[.int .i64 (t0:Int),.int .i64 mode,.func (.func 56) #[] #[.pointer (some ⟨g,0,none⟩)]] w (fun en w'=> ∃X,ExR (ngD D) (dyQ D.1.natAbs D.2) false mode X∧en=.returned (.tuple #[.int .u64 X,.bool true])∧Below w.heap.size w w'):=
 (byBounds_any mode m0 m1 t0 56 (.pointer (some ⟨g,0,none⟩)) (GoodXr false (ngD D) (dyQ D.1.natAbs D.2)) w h0 h1 (fun p w=>ent_xb9 p _ w) (fun t x h=>goodXr_sz _ _ _ t x h) (fun t x h ht=>goodXr_end _ _ _ t x h ht) (fun t w' t0 t1 hb=>xbC9_any D q t g w' (hz.below hb) H t0 t1)).mono (fun en w' h=>by
  obtain ⟨t,x,h1,h2,h3,h4,h5,h6⟩:=h
  exact ⟨_,goodXr_r _ _ _ mode m0 m1 t x h1 h2 h3 h4,h5,h6⟩)
theorem lsBy_any (D:Dy) (q t0:Nat) (mode:Int) (g:Nat) (w:World) (hz:QVr 49 3 w g D 400000 200000) (H:EbIn D q) (h0:20≤t0) (h1:t0≤2000) (m0:0≤mode) (m1:mode≤4):
 Calls Tryz.prog 42 #[.int .i64 (t0:Int),.int .i64 mode,.func (.func 59) #[] #[.pointer (some ⟨g,0,none⟩)]] w (fun en w'=> ∃X,ExR (ngD D) (dyQ D.1.natAbs D.2) true mode X∧en=.returned (.tuple #[.int .u64 X,.bool true])∧Below w.heap.size w w'):=
 (byBounds_any mode m0 m1 t0 59 (.pointer (some ⟨g,0,none⟩)) (GoodXr true (ngD D) (dyQ D.1.natAbs D.2)) w h0 h1 (fun p w=>ent_lsb9 p _ w) (fun t x h=>goodXr_sz _ _ _ t x h) (fun t x h ht=>goodXr_end _ _ _ t x h ht) (fun t w' t0 t1 hb=>lsC9_any D q t g w' (hz.below hb) H t0 t1)).mono (fun en w' h=>by
  obtain ⟨t,x,h1,h2,h3,h4,h5,h6⟩:=h
  exact ⟨_,goodXr_r _ _ _ mode m0 m1 t x h1 h2 h3 h4,h5,h6⟩)
end Go.Proofs.YtehhegbkahnhgaaGreatDoor
namespace Go.Ulp
open Go.RowKit
def RetXR (w:World) (ng:Bool) (y:Rat) (o:Bool) (mode:Int) (en:Ending) (w':World):Prop:= ∃X,ExR ng y o mode X∧en=.returned (.tuple #[.int .u64 X,.bool true,.int .i64 0])∧Below w.heap.size w w'
theorem sd_sign {D:Dy} (h:D.1≠0):dSign (decide (D.1<0)) (limbs D.1.natAbs).length=sdD D:=by
 have hl:(limbs D.1.natAbs).length≠0:=by
  intro h2
  have h3:=List.length_eq_zero_iff.1 h2
  have h4:=congrArg lval h3
  rw [lval_limbs] at h4
  have:lval []=0:=rfl
  omega
 unfold dSign sdD
 rw [if_neg hl]
 by_cases hd:D.1<0
 ·rw [decide_eq_true hd,if_pos rfl,if_pos hd]
 ·rw [decide_eq_false hd,if_neg (by decide),if_neg hd]
theorem sd_two (D:Dy):sdD D= -1∨sdD D=1:=by unfold sdD;split<;>simp
end Go.Ulp
namespace Go.Proofs.YtehhegbkahnhgaaGreatDoor
open Go.RowKit Go.Ulp
set_option maxHeartbeats 4000000
set_option maxRecDepth 100000
theorem dsg9_any (v:Value) (D:Dy) (h:D.1≠0) (w:World) (hv:VD w D v):Calls Tryz.prog 45 #[v] w fun en w'=>en=.returned (.int .i64 (sdD D))∧Below w.heap.size w w':=by
 obtain ⟨a,c,rfl,h2⟩:=hv
 rw [←sd_sign h]
 exact dyadSign_any _ a _ c D.2 w
theorem bsd9_any (v:Value) (D:Dy) (sd:Int) (w:World) (hm:D.1.natAbs<2^53) (he: -2000≤D.2∧D.2≤2000) (hv:VD w D v):Calls Tryz.prog 23 #[v,.int .i64 sd] w (RetDy w (besNeg (decide (D.1<0)) D.1.natAbs sd) (besM (decide (D.1<0)) D.1.natAbs sd) (besE D.1.natAbs D.2 sd)):=by
 obtain ⟨a,c,rfl,h2⟩:=hv
 exact beside_any _ _ a c _ sd w h2 (Nat.le_trans (len_le (Nat.le_of_lt hm) (by omega)) (show 10≤10000 by omega)) ⟨by omega,by omega⟩
theorem bsn9_any (D:Dy) (sd mode:Int) (a:Option Addr) (c:Nat) (w:World) (hm:D.1.natAbs<2^53) (he: -2000≤D.2∧D.2≤2000) (hs:sd= -1∨sd=1) (h:Ns .u32 w a c (limbs (besM (decide (D.1<0)) D.1.natAbs sd))):
 Calls Tryz.prog 22 #[.agg #[.bool (besNeg (decide (D.1<0)) D.1.natAbs sd),.slice a (limbs (besM (decide (D.1<0)) D.1.natAbs sd)).length c,.int .i64 (besE D.1.natAbs D.2 sd)],.int .i64 mode] w (RetX3 w (bsX D sd mode) (bsC D sd mode) 0):=by
 obtain ⟨q1,q2,q3⟩:=bes_bd9 (decide (D.1<0)) D.1.natAbs D.2 sd hm he hs
 exact num9_any _ a c _ _ mode w h (by omega) ⟨by omega,by omega⟩ q3
theorem xpNear_any (m:Nat) (e:Int) (ng:Bool) (mode:Int) (g:Nat) (a:Option Addr) (c:Nat) (w:World) (zD:QL 38 w g ng (.slice a (limbs m).length c) e) (h0:Ns .u32 w a c (limbs m)) (H:XpOK m e 1024) (m0:0≤mode) (m1:mode≤4) (hT:Tab 0 w):
 Calls Tryz.prog 48 #[.int .i64 mode,.func (.func 49) #[] #[.pointer (some ⟨g,0,none⟩)]] w (RetXR w ng (dyQ m e) false mode):=
 (near_any mode 49 (.pointer (some ⟨g,0,none⟩)) (fun p=>GoodXo false ng (dyQ m e) (p+1600)) w (fun p w=>ent_xp9 p _ w) (fun p D E h=>goodXo_nb h) (fun p D E h hp=>goodXo_end _ _ _ mode m0 m1 _ D E h (by omega)) (fun p w'' h1 h2 hb=>xpC9_any m e 1024 ng p g a c w'' (QL.below zD hb) (Ns.below h0 hb) H (by omega) h2 (Tab.below hT hb))).mono
  (fun en w' ⟨p,D,E,hg,g1,g2,g3,h4,h5⟩=>⟨_,goodXo_r _ _ _ mode m0 m1 _ D E hg g1 g2 g3,h4,h5⟩)
theorem xmNear_any (m:Nat) (e:Int) (ng:Bool) (mode:Int) (g:Nat) (a:Option Addr) (c:Nat) (w:World) (zD:QL 38 w g ng (.slice a (limbs m).length c) e) (h0:Ns .u32 w a c (limbs m)) (H:XpOK m e 1024) (m0:0≤mode) (m1:mode≤4) (hT:Tab 0 w):
 Calls Tryz.prog 48 #[.int .i64 mode,.func (.func 52) #[] #[.pointer (some ⟨g,0,none⟩)]] w (RetXR w ng (dyQ m e) true mode):=
 (near_any mode 52 (.pointer (some ⟨g,0,none⟩)) (fun p=>GoodXo true ng (dyQ m e) p) w (fun p w=>ent_xm9 p _ w) (fun p D E h=>goodXo_nb h) (fun p D E h hp=>goodXo_end _ _ _ mode m0 m1 _ D E h hp) (fun p w'' h1 h2 hb=>xmC9_any m e 1024 ng p g a c w'' (QL.below zD hb) (Ns.below h0 hb) H (by omega) h2 (Tab.below hT hb))).mono
  (fun en w' ⟨p,D,E,hg,g1,g2,g3,h4,h5⟩=>⟨_,goodXo_r _ _ _ mode m0 m1 _ D E hg g1 g2 g3,h4,h5⟩)
theorem hugeN_any (mode:Int) (a:Option Addr) (c:Nat) (w:World) (m0:0≤mode) (m1:mode≤4) (h:Ns .u32 w a c (limbs 1)):Calls Tryz.prog 22 #[.agg #[.bool false,.slice a (limbs 1).length c,.int .i64 2000],.int .i64 mode] w (RetX3 w (bigX mode) true 0):=by
 have k:=num9_any false a c 1 2000 mode w h (by decide) (by omega) (by omega)
 rw [(huge_x mode m0 m1).1,(huge_x mode m0 m1).2] at k
 exact k
theorem tinyN_any (mode:Int) (a:Option Addr) (c:Nat) (w:World) (m0:0≤mode) (m1:mode≤4) (h:Ns .u32 w a c (limbs 1)):Calls Tryz.prog 22 #[.agg #[.bool false,.slice a (limbs 1).length c,.int .i64 (-2000)],.int .i64 mode] w (RetX3 w (vX 1 mode) true 0):=by
 have k:=num9_any false a c 1 (-2000) mode w h (by decide) (by omega) (by omega)
 rw [(tiny_x mode m0 m1).1,(tiny_x mode m0 m1).2] at k
 exact k
end Go.Proofs.YtehhegbkahnhgaaGreatDoor
