/- SeriesExp: what the proof leans on, part 23 (Se9 Sf8 Sf9 Frame2 Tb). -/
import Derived.WalkKit
import Derived.ReadAgain
import Derived.ChangeReads
import Derived.Lib.SmallJoins
import Derived.ChangeSlices
import Derived.OpenShut
import Derived.Test.YtehhegbkahnhgaaDoorRows
import Derived.LaidMore
import Derived.Lib.LaidTab
import Derived.LaidLaws
import Derived.SevenTiedAt
import Derived.Stop.Joined
import Derived.Test.YtehhegbkahnhgaaDoorKSeriesExp4
import Derived.Test.YtehhegbkahnhgaaDoorKSeriesExp13
import Derived.Test.YtehhegbkahnhgaaDoorKSeriesExp20
import Derived.Test.YtehhegbkahnhgaaDoorKSeriesExp22
set_option linter.unusedVariables false
set_option linter.unusedSimpArgs false
namespace Go.Ulp
open Go.RowKit
theorem le800 (m:Nat) (x:Int) (h: ¬0<cmpD ((m:Int),x) (nrm 800 0)):dyQ m x≤((800:Nat):Rat)∧(0<m→(bl m:Int)+x≤10):=by
 have e8:nrm 800 0=(25,5):=by decide
 rw [e8] at h
 have h1:sc (m:Int) x (min x 5)≤sc 25 5 (min x 5):=by
  unfold cmpD cmpI at h
  simp only at h
  by_cases a:sc (m:Int) x (min x 5)<sc 25 5 (min x 5)
  ·omega
  ·rw [if_neg a] at h
   by_cases b:sc 25 5 (min x 5)<sc (m:Int) x (min x 5)
   ·rw [if_pos b] at h;omega
   ·omega
 clear h
 unfold sc at h1
 obtain ⟨a,ha⟩: ∃a,a=(x-min x 5).toNat:=⟨_,rfl⟩
 obtain ⟨b,hb⟩: ∃b,b=(5-min x 5).toNat:=⟨_,rfl⟩
 rw [←ha,←hb,pw_nat,pw_nat] at h1
 have h2:m*2^a≤25*2^b:=by
  apply Int.ofNat_le.1
  rw [Int.natCast_mul,Int.natCast_mul]
  exact h1
 constructor
 ·apply Rat.le_of_mul_le_mul_left _ (pow2_pos (-x).toNat)
  rw [dyQ_eq]
  have h3:m*2^x.toNat≤2^(-x).toNat*800:=by
   apply Nat.le_of_mul_le_mul_right _ (Nat.two_pow_pos b)
   have e1:m*2^x.toNat*2^b=m*2^a*2^(5+(-x).toNat):=by
    rw [Nat.mul_assoc,Nat.mul_assoc,←Nat.pow_add,←Nat.pow_add];congr 2;omega
   have e2:2^(-x).toNat*800*2^b=25*2^b*2^(5+(-x).toNat):=by
    rw [Nat.pow_add]
    generalize 2^(-x).toNat=u
    generalize 2^b=v
    grind
   rw [e1,e2]
   exact Nat.mul_le_mul_right _ h2
  have h4:=(Rat.natCast_le_natCast (a:=m*2^x.toNat) (b:=2^(-x).toNat*800)).2 h3
  rw [cast_mul,cast_mul,two_cast,two_cast] at h4
  exact h4
 ·intro hm
  have h3:=pow_bl m hm
  have h4:2^(bl m-1+a)<2^(5+b):=by
   rw [Nat.pow_add,Nat.pow_add]
   have:=Nat.mul_le_mul_right (2^a) h3
   have:=Nat.two_pow_pos b
   omega
  have h5:=(Nat.pow_lt_pow_iff_right (by omega:1<2)).1 h4
  have:=(bl_pos m).2 hm
  omega
def ExpSaid (n0:Bool) (m:Nat) (x0:Int) (pl:Nat) (D:Dy) (er:Int):Prop:=
 (0<cmpD ((m:Int),x0) (nrm 800 0)∧D=(0,0)∧er=2)∨(¬0<cmpD ((m:Int),x0) (nrm 800 0)∧er=0∧m=0∧D=nrm 1 0)∨(¬0<cmpD ((m:Int),x0) (nrm 800 0)∧er=0∧0<m∧ ∃z:Nat,IsFl (dyQ m x0) n0 pl z∧D=nrm (z:Int) (-(pl:Int)))
def RetExp (w:World) (n0:Bool) (m:Nat) (x0:Int) (pl:Nat) (en:Ending) (w':World):Prop:= ∃D er,RetVE w D er en w'∧ExpSaid n0 m x0 pl D er
theorem le40 {L:List Nat} (hl:Lim L) (h:L.length≤40):lval L<2^1280:=by
 have a:=lval_lt L hl
 obtain ⟨z,hz⟩: ∃z,z=1280:=⟨_,rfl⟩
 rw [←hz]
 have b:4294967296^L.length≤2^z:=by
  rw [show (4294967296:Nat)=2^32 by decide,←Nat.pow_mul]
  exact Nat.pow_le_pow_right (by omega) (by omega)
 exact Nat.lt_of_lt_of_le a b
end Go.Ulp
namespace Go.Proofs.YtehhegbkahnhgaaDoor
open Go.RowKit Go.Ulp
set_option maxHeartbeats 4000000
set_option maxRecDepth 100000
theorem vdm {w:World} {a:Option Addr} {c m:Nat} {x:Int} (h:Ns .u32 w a c (limbs m)):VD w ((m:Int),x) (.agg #[.bool false,.slice a (limbs m).length c,.int .i64 x]):=by
 refine ⟨a,c,?_,h⟩
 rw [decide_eq_false (show ¬((m:Int),x).1<0 from by show ¬(m:Int)<0;omega)]
 rfl
theorem ent_exp1 (p:Int) (cp:Value) (w:World):Sem.run Tryd.prog (callFunc 23 #[.int .i64 p,cp]) w=.ok (.enter 23 #[.int .i64 p,cp]) w:=by
 simp [callFunc,go_sem,Tryd.func23,Tryd.f23]
theorem sExp_m (n0:Bool) (a0:Option Addr) (c0 m:Nat) (x0:Int) (pl:Nat) (w:World) (h0:Ns .u32 w a0 c0 (limbs m)) (hl0:Lim (limbs m)) (hA:askE n0 (limbs m) x0 pl=0) (hT:Tab 0 w):
 Calls Tryd.prog 5 #[.agg #[.bool n0,.slice a0 (limbs m).length c0,.int .i64 x0],.int .i64 (pl:Int)] w (RetExp w n0 m x0 pl):=by
 have CK:=hid (fun w h=>sCheck_any n0 a0 c0 (limbs m) x0 pl w h hl0)
 rw [hA] at CK
 have H0:=hid h0
 have HT:=hid hT
 obtain ⟨hd,-,hpl,hl40⟩:=ask_zero hA
 obtain ⟨b1,b2,b3,-,-,-⟩:=dyadE_zero hl0 hd
 have hm40:m<2^1280:=by have:=le40 hl0 hl40;rwa [lval_limbs] at this
 have zA0:QL 24 ((w.alloc (.cells #[.bool n0,.slice a0 (limbs m).length c0,.int .i64 x0] 24)).alloc (.cells #[.bool false,.slice none 0 0,.int .i64 0] 24)) w.heap.size n0 (.slice a0 (limbs m).length c0) x0:=(QL.made rfl).alloc _
 have zR0:QL 24 ((w.alloc (.cells #[.bool n0,.slice a0 (limbs m).length c0,.int .i64 x0] 24)).alloc (.cells #[.bool false,.slice none 0 0,.int .i64 0] 24)) (w.heap.size+1) false (.slice none 0 0) 0:=QL.made (by first|omega|(simp;done)|(simp;omega))
 have yb0:Below w.heap.size w ((w.alloc (.cells #[.bool n0,.slice a0 (limbs m).length c0,.int .i64 x0] 24)).alloc (.cells #[.bool false,.slice none 0 0,.int .i64 0] 24)):=by (repeat' first|(with_reducible first|assumption|apply bR|apply bA|apply bN|apply bD|apply bL|apply bS)|refine bT ?_ (by assumption)|go_size)
 have OF:=hid (show ∀w,Calls Tryd.prog 21 #[.int .u64 800] w fun e w'=>RetN w 800 e w' from fun w=>natOf_any 800 (by omega) w)
 have NO:=hid (show ∀a c w,Ns .u32 w a c (limbs 800)→Tab 0 w→Calls Tryd.prog 20 #[.bool false,.slice a (limbs 800).length c,.int .i64 0] w (RetVD w (nrm 800 0)) from fun a c w h t=>normD_any false a c 800 0 w h (by decide) (by omega) t)
 have CM:=hid (fun v u w hv hu t=>compareD_any v u ((m:Int),x0) (nrm 800 0) w hv hu (by show (limbs m).length≤_;omega) (by decide) (by show -1000000≤x0∧x0≤1000000;omega) (by decide) t)
 have HQ:=hid (le800 m x0)
 have HE:=hid (show ∀D er en w',RetVE w D er en w'→((0<cmpD ((m:Int),x0) (nrm 800 0)∧D=(0,0)∧er=2)∨(¬0<cmpD ((m:Int),x0) (nrm 800 0)∧er=0∧m=0∧D=nrm 1 0)∨(¬0<cmpD ((m:Int),x0) (nrm 800 0)∧er=0∧0<m∧ ∃z:Nat,IsFl (dyQ m x0) n0 pl z∧D=nrm (z:Int) (-(pl:Int))))→RetExp w n0 m x0 pl en w' from fun D er en w' h1 h2=>⟨D,er,h1,h2⟩)
 generalize cmpD ((m:Int),x0) (nrm 800 0)=cd at *
 have VM:=hid (fun w h=> @vdm w a0 c0 m x0 h)
 clear h0 hT hl0 hA
 go_enter Tryd.func5,Tryd.ntmps5
 go_upto_region 4 with (go_at_call 18;(with_reducible refine (CK.out _ (H0.out.below yb0)).mono ?_);rintro en w1 ⟨rfl,hb1⟩)
 have yb1:=below_trans yb0 hb1
 have zA1:=zA0.below hb1
 have zR1:=zR0.below hb1
 clear zA0 zR0 yb0 hb1 CK
 refine wp_region_grow 9 [15,16,17,18,19,20,21,22,23] [Fact.is (.pointer (some ⟨w.heap.size,1,none⟩)),Fact.is (.slice a0 (limbs m).length c0),Fact.is (.pointer (some ⟨w.heap.size,2,none⟩)),Fact.is (.int .i64 x0),Fact.is (.agg #[.bool false,.slice a0 (limbs m).length c0,.int .i64 x0]),Fact.li 800,Fact.vd (nrm 800 0),Fact.is (.int .i64 cd),Fact.is (.bool (decide (0<cd)))] (by kernel_rfl) (by kernel_rfl) ⟨?o0,?o1,?o2,?o3,?o4,?o5,?o6,?o7,?o8,trivial⟩ ?after
 case o0=>(refine oQ rfl ?_;intro ρ w1 R hcon hfn hρ hb hp hR;have e2:ρ (.tmp 2)=.pointer (some ⟨w.heap.size,0,none⟩):=hρ.tmp 2 rfl;clear hρ hp;unfold OpRun;go_simp;exact hR _ _ (Below.refl _ _) rfl)
 case o1=>(refine oQ rfl ?_;intro ρ w1 R hcon hfn hρ hb hp hR;have e15:ρ (.tmp 15)=_:=hp 0 15 rfl rfl;obtain ⟨⟨j0,j1,-⟩,j2,-⟩:=zA1.below hb;clear hρ hp;unfold OpRun;go_simp;exact hR _ _ (Below.refl _ _) rfl)
 case o2=>(refine oQ rfl ?_;intro ρ w1 R hcon hfn hρ hb hp hR;have e2:ρ (.tmp 2)=.pointer (some ⟨w.heap.size,0,none⟩):=hρ.tmp 2 rfl;clear hρ hp;unfold OpRun;go_simp;exact hR _ _ (Below.refl _ _) rfl)
 case o3=>(refine oQ rfl ?_;intro ρ w1 R hcon hfn hρ hb hp hR;have e17:ρ (.tmp 17)=_:=hp 2 17 rfl rfl;obtain ⟨⟨j0,j1,-⟩,j2,-⟩:=zA1.below hb;clear hρ hp;unfold OpRun;go_simp;exact hR _ _ (Below.refl _ _) rfl)
 case o4=>(refine oQ rfl ?_;intro ρ w1 R hcon hfn hρ hb hp hR;have e16:ρ (.tmp 16)=_:=hp 1 16 rfl rfl;have e18:ρ (.tmp 18)=_:=hp 3 18 rfl rfl;clear hρ hp;unfold OpRun;go_simp;exact hR _ _ (Below.refl _ _) rfl)
 case o5=>(refine oQ rfl ?_;intro ρ w1 R hcon hfn hρ hb hp hR;clear hρ hp;unfold OpRun;go_simp;(refine (OF.out _).mono ?_;rintro e wn ⟨a9,rfl,hn9,hbn⟩;exact ⟨_,rfl,hR _ _ hbn ⟨a9,_,rfl,hn9⟩⟩))
 case o6=>(refine oQ rfl ?_;intro ρ w1 R hcon hfn hρ hb hp hR;have f20:=hp 5 20 rfl rfl;obtain ⟨a9,c9,e20,hn9⟩:=f20;clear hρ hp;unfold OpRun;go_simp;(skip;refine (NO.out a9 c9 _ hn9 (HT.out.below (below_trans yb1 hb))).mono ?_;rintro e wn ⟨v9,rfl,hv9,hbn⟩;exact ⟨_,rfl,hR _ _ hbn hv9⟩))
 case o7=>(refine oQ rfl ?_;intro ρ w1 R hcon hfn hρ hb hp hR;have e19:ρ (.tmp 19)=_:=hp 4 19 rfl rfl;have f21:=hp 6 21 rfl rfl;clear hρ hp;unfold OpRun;go_simp;(refine (CM.out _ _ _ (VM.out _ (H0.out.below (below_trans yb1 hb))) f21 (HT.out.below (below_trans yb1 hb))).mono ?_;rintro e wn ⟨rfl,hbn⟩;exact ⟨_,rfl,hR _ _ hbn rfl⟩))
 case o8=>(refine oQ rfl ?_;intro ρ w1 R hcon hfn hρ hb hp hR;have e22:ρ (.tmp 22)=_:=hp 7 22 rfl rfl;clear hρ hp;unfold OpRun;go_simp;exact hR _ _ (Below.refl _ _) rfl)
 case after=>
  intro u wn hb hf
  have e23:u 23=_:=hf 8 23 (by omega) rfl
  clear hf
  simp only [putAll,Act.put,List.setIfInBounds_toArray,List.set_cons_zero,List.set_cons_succ,List.drop_succ_cons,List.drop_zero,List.drop_nil]
  rw [e23]
  have yb2:=below_trans yb1 hb
  have zA2:=zA1.below hb
  have zR2:=zR1.below hb
  clear zA1 zR1 yb1 hb CM NO OF VM
  by_cases hc:0<cd
  ·have hcd1:(decide (0<cd))=true:=decide_eq_true hc
   obtain ⟨⟨k0,k1,f0,f1,hs2⟩,k2,f2⟩:=id zR2
   rw [hcd1]
   go_wp2_with fail
   refine bodyPost_ret (by simp [results,Tryd.results5,go_sem,k0,k1,k2];try rfl) rfl ?_
   refine HE.out _ _ _ _ ⟨_,rfl,VD.none _,Go.Ulp.Below.put3 yb2 (by omega) _ _ _⟩ (.inl ⟨hc,rfl,rfl⟩)
  ·have hcd1:(decide (0<cd))=false:=decide_eq_false hc
   rw [hcd1]
   have HL:=HQ.out (by omega)
   clear HQ hcd1
   obtain ⟨⟨j0,j1,-⟩,j2,-⟩:=id zA2
   by_cases hm:m=0
   ·have e0:(limbs m).length=0:=by rw [hm];rfl
    have O1:=hid (show ∀w,Calls Tryd.prog 21 #[.int .u64 1] w fun e w'=>RetN w 1 e w' from fun w=>natOf_any 1 (by omega) w)
    have N1:=hid (show ∀a c w,Ns .u32 w a c (limbs 1)→Tab 0 w→Calls Tryd.prog 20 #[.bool false,.slice a (limbs 1).length c,.int .i64 0] w (RetVD w (nrm 1 0)) from fun a c w h t=>normD_any false a c 1 0 w h (by decide) (by omega) t)
    rw [e0] at j1
    go_wp2_with (first
     |(go_at_call 21;(with_reducible refine (O1.out _).mono ?_);rintro en w3 ⟨a3,rfl,hN3,hb3⟩)
     |(go_at_call 20;(with_reducible refine (N1.out _ _ _ hN3 (HT.out.below (below_trans yb2 hb3))).mono ?_);rintro en w4 ⟨v4,rfl,⟨a4,c4,rfl,hN4⟩,hb4⟩;have zR4:=(zR2.below hb3).below hb4;obtain ⟨⟨k0,k1,f0,f1,hs2⟩,k2,f2⟩:=id zR4))
    have yb4:=below_trans (below_trans yb2 hb3) hb4
    refine bodyPost_ret (by simp [results,Tryd.results5,go_sem,k0,k1,k2];try rfl) rfl ?_
    refine HE.out _ _ _ _ ⟨_,rfl,⟨a4,c4,rfl,hN4.set3 zR4 (by intro x h;cases h) _ _ _⟩,Go.Ulp.Below.put3 yb4 (by omega) _ _ _⟩ (.inr (.inl ⟨hc,rfl,hm,rfl⟩))
   ·have hm0:0<m:=by omega
    have hzb:(((limbs m).length:Int)==0)=false:=beq_eq_false_iff_ne.2 (by
     intro h
     exact hm ((limbs_nil m).1 (List.length_eq_zero_iff.1 (by omega))))
    obtain ⟨p0,hp0⟩: ∃p0:Nat,p0=pl+1300:=⟨_,rfl⟩
    have wP:IntKind.i64.wrap ((pl:Int)+1300)=(pl:Int)+1300:=IntWalk.i64_in _ (by omega)
    have eP:(p0:Int)=(pl:Int)+1300:=by omega
    have hs:sN (bl m) x0≤26:=by have:=HL.2 hm0;unfold sN;omega
    have FR:=hid (fun w' hz hN hT=>floor9_any pl p0 23 (.pointer (some ⟨w.heap.size,0,none⟩)) (GoodE m x0 n0) w' (by omega) (by omega) (by omega) hT (fun p w=>ent_exp1 p _ w) (exp_bnd m x0 n0 pl 800 hm0 hm40 (by omega) rfl HL.1 hs (by omega)) (fun p w'' h1 h2 hb=>expFn_any m x0 n0 p w.heap.size a0 c0 w'' (QL.below hz hb) (Ns.below hN hb) (by omega) (by omega) h1 h2 hs (Tab.below hT hb)))
    have hmf: ∀fn first cap w,(Instr.makeFunc fn first cap).run Tryd.prog w=.ok (.func fn first cap) w:=fun _ _ _ _=>rfl
    rw [eP] at FR
    clear hm40 HL eP hp0
    go_upto_region 9 with fail
    go_wp2_with (go_at_call 22;(with_reducible refine (FR.out _ zA2 (H0.out.below yb2) (HT.out.below yb2)).mono ?_);rintro en w4 ⟨p4,D4,E4,hg4,he4,hr4⟩;obtain ⟨z,hz1,hz2⟩:=exp_fl m x0 n0 pl p4 D4 E4 hg4 he4;rw [hz2] at hr4;obtain ⟨DD,hDD⟩: ∃DD,DD=nrm (z:Int) (-(pl:Int)):=⟨_,rfl⟩;rw [←hDD] at hr4;have HDD:=hid hDD;clear hz2 he4 hg4 hDD;obtain ⟨v4,rfl,⟨a4,c4,rfl,hN4⟩,hb4⟩:=hr4;have zR4:=zR2.below hb4;obtain ⟨⟨k0,k1,f0,f1,hs2⟩,k2,f2⟩:=id zR4)
    have yb4:=below_trans yb2 hb4
    refine bodyPost_ret (by simp [results,Tryd.results5,go_sem,k0,k1,k2];try rfl) rfl ?_
    refine HE.out DD 0 _ _ ⟨_,rfl,⟨a4,c4,rfl,hN4.set3 zR4 (by intro x h;cases h) _ _ _⟩,Go.Ulp.Below.put3 yb4 (by omega) _ _ _⟩ (.inr (.inr ⟨hc,rfl,hm0,z,hz1,HDD.out⟩))
theorem sExp_bad (n0:Bool) (a0:Option Addr) (c0:Nat) (L0:List Nat) (x0 pl:Int) (w:World) (h0:Ns .u32 w a0 c0 L0) (hl0:Lim L0) (hA:askE n0 L0 x0 pl≠0):
 Calls Tryd.prog 5 #[.agg #[.bool n0,.slice a0 L0.length c0,.int .i64 x0],.int .i64 pl] w (RetVE w (0,0) (askE n0 L0 x0 pl)):=by
 have CK:=hid (fun w h=>sCheck_any n0 a0 c0 L0 x0 pl w h hl0)
 have H0:=hid h0
 have zR0:QL 24 ((w.alloc (.cells #[.bool n0,.slice a0 L0.length c0,.int .i64 x0] 24)).alloc (.cells #[.bool false,.slice none 0 0,.int .i64 0] 24)) (w.heap.size+1) false (.slice none 0 0) 0:=QL.made (by first|omega|(simp;done)|(simp;omega))
 have zA0:QL 24 ((w.alloc (.cells #[.bool n0,.slice a0 L0.length c0,.int .i64 x0] 24)).alloc (.cells #[.bool false,.slice none 0 0,.int .i64 0] 24)) w.heap.size n0 (.slice a0 L0.length c0) x0:=(QL.made rfl).alloc _
 have yb0:Below w.heap.size w ((w.alloc (.cells #[.bool n0,.slice a0 L0.length c0,.int .i64 x0] 24)).alloc (.cells #[.bool false,.slice none 0 0,.int .i64 0] 24)):=by (repeat' first|(with_reducible first|assumption|apply bR|apply bA|apply bN|apply bD|apply bL|apply bS)|refine bT ?_ (by assumption)|go_size)
 have hzb:(askE n0 L0 x0 pl==0)=false:=beq_eq_false_iff_ne.2 hA
 have hzn:(askE n0 L0 x0 pl !=0)=true:=bne_iff_ne.2 hA
 generalize askE n0 L0 x0 pl=E at *
 clear h0 hl0
 obtain ⟨⟨j0,j1,-⟩,j2,-⟩:=id zA0
 go_enter Tryd.func5,Tryd.ntmps5
 go_wp2_with (go_at_call 18;(with_reducible refine (CK.out _ (H0.out.below yb0)).mono ?_);rintro en w1 ⟨rfl,hb1⟩;have zR1:=zR0.below hb1;obtain ⟨⟨k0,k1,f0,f1,hs2⟩,k2,f2⟩:=id zR1)
 refine bodyPost_ret (by simp [results,Tryd.results5,go_sem,k0,k1,k2];try rfl) rfl ?_
 exact ⟨_,rfl,VD.none _,Go.Ulp.Below.put3 (below_trans yb0 hb1) (by omega) _ _ _⟩
theorem rAsk_any (n0:Bool) (a0:Option Addr) (c0:Nat) (L0:List Nat) (x0 pl:Int) (w:World) (h0:Ns .u32 w a0 c0 L0) (hl0:Lim L0):
 Calls Tryd.prog 6 #[.agg #[.bool n0,.slice a0 L0.length c0,.int .i64 x0],.int .i64 pl] w fun e w'=>e=.returned (.int .i64 (askE n0 L0 x0 pl))∧Below w.heap.size w w':=by
 have R1:=hid (fun g w k h=>dyadRight1_any g n0 a0 c0 L0 x0 w k h hl0)
 have BP:=hid (fun w=>between_any pl 0 1300 w)
 have H0:=hid h0
 have zA:QL 24 (w.alloc (.cells #[.bool n0,.slice a0 L0.length c0,.int .i64 x0] 24)) w.heap.size n0 (.slice a0 L0.length c0) x0:=QL.made rfl
 have yb:=below_alloc w (.cells #[.bool n0,.slice a0 L0.length c0,.int .i64 x0] 24)
 have HA:=hid (show askE n0 L0 x0 pl=if dyadE n0 L0 x0≠0 then dyadE n0 L0 x0 else if pl<0∨1300<pl then 1 else if 40<L0.length then 2 else 0 from rfl)
 generalize askE n0 L0 x0 pl=A at *
 generalize dyadE n0 L0 x0=E at *
 have h1:=h0.1
 have h2:=h0.2.1
 clear h0 hl0
 by_cases hE:E=0
 ·subst hE
  by_cases h3:pl<0∨1300<pl
  ·have e:A=1:=by rw [HA.out,if_neg (by omega),if_pos h3]
   have hd:decide (0≤pl∧pl≤1300)=false:=decide_eq_false (by omega)
   rw [hd] at BP
   subst e
   clear HA h3 hd
   go_enter Tryd.func6,Tryd.ntmps6
   go_upto_region 1 with fail
   refine wp_worldZ (fun WW=>Below w.heap.size w WW∧QL 24 WW w.heap.size n0 (.slice a0 L0.length c0) x0) ⟨yb,zA⟩ ?_
   clear yb zA
   intro W1 ⟨yb1,zA⟩
   obtain ⟨⟨j0,j1,-⟩,j2,-⟩:=id zA
   go_wp2_with (first
    |(go_at_call 25;(with_reducible refine (R1.out _ _ DC.mk1 (H0.out.below (below_trans yb1 (below_alloc _ _)))).mono ?_);rintro e w5 ⟨rfl,hb5'⟩;have hb5:=below_trans (below_alloc _ _) hb5';have zA5:=zA.below hb5;obtain ⟨⟨k0,k1,-⟩,k2,-⟩:=id zA5)
    |(go_at_call 16;(with_reducible refine (BP.out _).mono ?_);rintro e w6 ⟨rfl,rfl⟩))
   refine bodyPost_ret (by simp [results,Tryd.results6,go_sem];try rfl) rfl ?_
   exact ⟨rfl,below_trans yb1 hb5⟩
  ·have hd:decide (0≤pl∧pl≤1300)=true:=decide_eq_true (by omega)
   rw [hd] at BP
   rw [if_neg (by omega),if_neg h3] at HA
   clear h3 hd
   by_cases h5:40<L0.length
   ·have g5:(40:Int)<(L0.length:Int):=by omega
    have e:A=2:=by rw [HA.out,if_pos h5]
    subst e
    clear HA h5
    go_enter Tryd.func6,Tryd.ntmps6
    go_upto_region 1 with fail
    refine wp_worldZ (fun WW=>Below w.heap.size w WW∧QL 24 WW w.heap.size n0 (.slice a0 L0.length c0) x0) ⟨yb,zA⟩ ?_
    clear yb zA
    intro W1 ⟨yb1,zA⟩
    obtain ⟨⟨j0,j1,-⟩,j2,-⟩:=id zA
    go_wp2_with (first
     |(go_at_call 25;(with_reducible refine (R1.out _ _ DC.mk1 (H0.out.below (below_trans yb1 (below_alloc _ _)))).mono ?_);rintro e w5 ⟨rfl,hb5'⟩;have hb5:=below_trans (below_alloc _ _) hb5';have zA5:=zA.below hb5;obtain ⟨⟨k0,k1,-⟩,k2,-⟩:=id zA5)
     |(go_at_call 16;(with_reducible refine (BP.out _).mono ?_);rintro e w6 ⟨rfl,rfl⟩))
    refine bodyPost_ret (by simp [results,Tryd.results6,go_sem];try rfl) rfl ?_
    exact ⟨rfl,below_trans yb1 hb5⟩
   ·have g5: ¬(40:Int)<(L0.length:Int):=by omega
    have e:A=0:=by rw [HA.out,if_neg h5]
    subst e
    clear HA h5
    go_enter Tryd.func6,Tryd.ntmps6
    go_upto_region 1 with fail
    refine wp_worldZ (fun WW=>Below w.heap.size w WW∧QL 24 WW w.heap.size n0 (.slice a0 L0.length c0) x0) ⟨yb,zA⟩ ?_
    clear yb zA
    intro W1 ⟨yb1,zA⟩
    obtain ⟨⟨j0,j1,-⟩,j2,-⟩:=id zA
    go_wp2_with (first
     |(go_at_call 25;(with_reducible refine (R1.out _ _ DC.mk1 (H0.out.below (below_trans yb1 (below_alloc _ _)))).mono ?_);rintro e w5 ⟨rfl,hb5'⟩;have hb5:=below_trans (below_alloc _ _) hb5';have zA5:=zA.below hb5;obtain ⟨⟨k0,k1,-⟩,k2,-⟩:=id zA5)
     |(go_at_call 16;(with_reducible refine (BP.out _).mono ?_);rintro e w6 ⟨rfl,rfl⟩))
    refine bodyPost_ret (by simp [results,Tryd.results6,go_sem];try rfl) rfl ?_
    exact ⟨rfl,below_trans yb1 hb5⟩
 ·have hzb:(E==0)=false:=beq_eq_false_iff_ne.2 hE
  have hzn:(E !=0)=true:=bne_iff_ne.2 hE
  have e:A=E:=by rw [HA.out,if_pos hE]
  subst e
  clear HA
  go_enter Tryd.func6,Tryd.ntmps6
  go_upto_region 1 with fail
  refine wp_worldZ (fun WW=>Below w.heap.size w WW∧QL 24 WW w.heap.size n0 (.slice a0 L0.length c0) x0) ⟨yb,zA⟩ ?_
  clear yb zA
  intro W1 ⟨yb1,zA⟩
  obtain ⟨⟨j0,j1,-⟩,j2,-⟩:=id zA
  go_wp2_with (first
   |(go_at_call 25;(with_reducible refine (R1.out _ _ DC.mk1 (H0.out.below (below_trans yb1 (below_alloc _ _)))).mono ?_);rintro e w5 ⟨rfl,hb5'⟩;have hb5:=below_trans (below_alloc _ _) hb5';have zA5:=zA.below hb5;obtain ⟨⟨k0,k1,-⟩,k2,-⟩:=id zA5)
   |(go_at_call 16;(with_reducible refine (BP.out _).mono ?_);rintro e w6 ⟨rfl,rfl⟩))
  refine bodyPost_ret (by simp [results,Tryd.results6,go_sem];try rfl) rfl ?_
  exact ⟨rfl,below_trans yb1 hb5⟩
end Go.Proofs.YtehhegbkahnhgaaDoor
namespace Go.Ulp
open Go.RowKit
theorem fl_size {y:Rat} {neg:Bool} {pl z:Nat} (hy:0≤y) (h8:y≤((800:Nat):Rat)) (hpl:pl≤1300) (h:IsFl y neg pl z):z<2^3000:=by
 obtain ⟨T0,h⟩:=h
 obtain ⟨q,hq⟩: ∃q,q=800:=⟨_,rfl⟩
 obtain ⟨r,hr⟩: ∃r,r=3000:=⟨_,rfl⟩
 rw [←hq] at h8
 rw [←hr]
 have a:=h (T0+1) (by omega)
 have b:=EE_ge_one hy (show 1≤T0+1 by omega)
 have c:=EE_bound hy q h8 (T0+1)
 generalize EE y (T0+1)=E at *
 have P:=pow2_pos pl
 have key:(z:Rat)≤2^pl*((4^q:Nat):Rat):=by
  have d:=Rat.mul_le_mul_of_nonneg_left c (show (0:Rat)≤2^pl by grind)
  cases neg
  ·simp only [Bool.false_eq_true,if_false] at a
   grind
  ·simp only [if_true] at a
   have e:=Rat.mul_le_mul_of_nonneg_left b (Rat.natCast_nonneg (a:=z))
   have one:(1:Rat)≤((4^q:Nat):Rat):=natle (show 1≤4^q from Nat.pow_pos (by omega))
   have f:=Rat.mul_le_mul_of_nonneg_left one (show (0:Rat)≤2^pl by grind)
   grind
 rw [←two_cast,←cast_mul] at key
 have k2:=Rat.natCast_le_natCast.1 key
 have k3:2^pl*4^q<2^r:=by
  rw [show (4:Nat)=2^2 by decide,←Nat.pow_mul,←Nat.pow_add]
  exact Nat.pow_lt_pow_right (by omega) (by omega)
 exact Nat.lt_of_le_of_lt k2 k3
theorem bnd_nrm (z pl:Nat) (hz:z<2^3000) (hpl:pl≤1300):bndB (nrm (z:Int) (-(pl:Int)))=true:=by
 obtain ⟨h1,h2⟩:=nrm_bd (z:Int) (-(pl:Int)) 3000 (by rw [Int.natAbs_natCast];exact hz)
 have h3:(limbs (nrm (z:Int) (-(pl:Int))).1.natAbs).length≤400:=len_le (Nat.le_of_lt h1) (by omega)
 unfold bndB dyB
 have h4: -10000≤(nrm (z:Int) (-(pl:Int))).2∧(nrm (z:Int) (-(pl:Int))).2≤10000:=by omega
 simp only [decide_eq_true_eq,Bool.and_eq_true]
 omega
theorem said_ok {n0:Bool} {m:Nat} {x0:Int} {pl:Nat} {D:Dy} (hpl:pl≤1300) (h8:dyQ m x0≤((800:Nat):Rat)) (h:(m=0∧D=nrm 1 0)∨(0<m∧ ∃z:Nat,IsFl (dyQ m x0) n0 pl z∧D=nrm (z:Int) (-(pl:Int)))):(∀E,XF n0 m x0 pl E→E=D)∧bdD D=D∧bdE D=0:=by
 rcases h with ⟨h0,rfl⟩|⟨h0,z,hz,rfl⟩
 ·refine ⟨?_,rfl,rfl⟩
  rintro E (⟨-,rfl⟩|⟨h1,-⟩)
  ·rfl
  ·omega
 ·have hb:=bnd_nrm z pl (fl_size (dyQ_nonneg m x0) h8 hpl hz) hpl
  refine ⟨?_,by unfold bdD;rw [if_pos hb],by unfold bdE;rw [if_pos hb]⟩
  rintro E (⟨h1,-⟩|⟨-,y,hy,rfl⟩)
  ·omega
  ·rw [fl_uniq (dyQ_nonneg m x0) hy hz]
end Go.Ulp
namespace Go.Proofs.YtehhegbkahnhgaaDoor
open Go.RowKit Go.Ulp
set_option maxHeartbeats 4000000
set_option maxRecDepth 100000
theorem expLaw_bad (n0:Bool) (a0:Option Addr) (c0:Nat) (L0:List Nat) (x0 pl:Int) (w:World) (h0:Ns .u32 w a0 c0 L0) (hl0:Lim L0) (hA:askE n0 L0 x0 pl≠0) (hT:Tab 0 w):
 Calls Tryd.prog 3 #[.agg #[.bool n0,.slice a0 L0.length c0,.int .i64 x0],.int .i64 pl] w fun e w'=>e=.returned (.bool true)∧Below w.heap.size w w':=by
 have EX:=hid (fun w h=>sExp_bad n0 a0 c0 L0 x0 pl w h hl0 hA)
 have AK:=hid (fun w h=>rAsk_any n0 a0 c0 L0 x0 pl w h hl0)
 have H0:=hid h0
 have HT:=hid hT
 have zA:QL 24 (w.alloc (.cells #[.bool n0,.slice a0 (L0).length c0,.int .i64 x0] 24)) w.heap.size n0 (.slice a0 (L0).length c0) x0:=QL.made rfl
 have yb:=below_alloc w (.cells #[.bool n0,.slice a0 (L0).length c0,.int .i64 x0] 24)
 have hzb:(askE n0 L0 x0 pl==0)=false:=beq_eq_false_iff_ne.2 hA
 have hzn:(askE n0 L0 x0 pl !=0)=true:=bne_iff_ne.2 hA
 have hzz:(askE n0 L0 x0 pl==askE n0 L0 x0 pl)=true:=beq_self_eq_true _
 generalize askE n0 L0 x0 pl=E at *
 clear h0 hl0 hT
 go_enter Tryd.func3,Tryd.ntmps3
 go_upto_region 1 with fail
 refine wp_worldZ (fun WW=>Below w.heap.size w WW∧QL 24 WW w.heap.size n0 (.slice a0 (L0).length c0) x0) ⟨yb,zA⟩ ?_
 clear yb zA
 intro W1 ⟨yb1,zA⟩
 obtain ⟨⟨j0,j1,-⟩,j2,-⟩:=id zA
 go_upto_region 2 with (go_at_call 5;(with_reducible refine (EX.out _ (H0.out.below yb1)).mono ?_);rintro en w2 ⟨v2,rfl,hv2,hb2⟩;obtain ⟨am,cm,rfl⟩:=hv2.none_form)
 have z5:QL 24 (w2.alloc (.cells #[.bool false,.slice am 0 cm,.int .i64 0] 24)) w2.heap.size false (.slice am 0 cm) 0:=QL.made rfl
 refine wp_worldZ (fun WW=>Below w.heap.size w WW∧QL 24 WW w.heap.size n0 (.slice a0 L0.length c0) x0∧QL 24 WW w2.heap.size false (.slice am 0 cm) 0) ⟨below_trans (below_trans yb1 hb2) (below_alloc _ _),(zA.below hb2).below (below_alloc _ _),z5⟩ ?_
 obtain ⟨g5,hg5⟩: ∃g,g=w2.heap.size:=⟨_,rfl⟩
 rw [←hg5]
 clear hb2 yb1 zA z5 hg5 j0 j1 j2 hv2
 intro W2 ⟨yb2,zA,z5⟩
 obtain ⟨⟨j0,j1,-⟩,j2,-⟩:=id zA
 go_upto_region 3 with (go_at_call 6;(with_reducible refine (AK.out _ (H0.out.below yb2)).mono ?_);rintro en w3 ⟨rfl,hb3⟩)
 obtain ⟨⟨i0,i1,-⟩,i2,-⟩:=z5.below hb3
 have yb3:=below_trans yb2 hb3
 clear yb2 zA z5 hb3 j0 j1 j2
 go_wp2_with (go_at_call 12;(refine (noDyad0_any _ _ _).mono ?_);rintro e w4 ⟨rfl,hb4⟩)
 refine bodyPost_ret (by simp [results,Tryd.results3,go_sem];try rfl) rfl ?_
 exact ⟨rfl,below_trans yb3 hb4⟩
theorem expLaw_m (n0:Bool) (a0:Option Addr) (c0 m:Nat) (x0:Int) (pl:Nat) (w:World) (h0:Ns .u32 w a0 c0 (limbs m)) (hl0:Lim (limbs m)) (hA:askE n0 (limbs m) x0 pl=0) (hT:Tab 0 w):
 Calls Tryd.prog 3 #[.agg #[.bool n0,.slice a0 (limbs m).length c0,.int .i64 x0],.int .i64 (pl:Int)] w fun e w'=>e=.returned (.bool true)∧Below w.heap.size w w':=by
 have EX:=hid (fun w h t=>sExp_m n0 a0 c0 m x0 pl w h hl0 hA t)
 have AK:=hid (fun w h=>rAsk_any n0 a0 c0 (limbs m) x0 pl w h hl0)
 rw [hA] at AK
 obtain ⟨hd,-,hpl,hl40⟩:=ask_zero hA
 obtain ⟨b1,b2,b3,-,-,-⟩:=dyadE_zero hl0 hd
 have hm40:m<2^1280:=by have:=le40 hl0 hl40;rwa [lval_limbs] at this
 have hnr:nrm (sg n0 (m:Int)) x0=(sg n0 (m:Int),x0):=by have:=right_nrm hl0 hd;unfold rightD at this;rwa [lval_limbs] at this
 have QO:=hid (fun w h=>qof_any n0 m a0 c0 x0 w h (by omega) (by omega))
 have QA:=hid (fun v w h=>qabs_any v (nrm (sg n0 (m:Int)) x0) 400000 200000 w h (by omega) (by omega))
 rw [show absD (nrm (sg n0 (m:Int)) x0)=((m:Int),x0) by rw [hnr];unfold absD;rw [sg_abs,Int.natAbs_natCast]] at QA
 have ON:=hid (fun w=>zND 800 (by omega) (by omega) w)
 have QM:=hid (fun a c w (h:Nz 3 w a c (zl 800))=>qmake_any a c 800 0 10 0 w h (by decide) (by omega) (by omega) (by omega))
 have QC:=hid (fun v u w h k=>qcmp_any v u ((m:Int),x0) (nrm 800 0) 400000 200000 10 0 w h k (by omega) (by omega) (by omega) (by omega))
 have HQ:=hid (le800 m x0)
 have XF1:=hid (fun v w h h8=>expFloor_any n0 m x0 pl v w h hm40 (by omega) h8 (by omega))
 have HS:=hid (show ∀D er,ExpSaid n0 m x0 pl D er→ExpSaid n0 m x0 pl D er from fun _ _ h=>h)
 obtain ⟨cd,hcd⟩: ∃c,c=cmpD ((m:Int),x0) (nrm 800 0):=⟨_,rfl⟩
 have HCD:=hid hcd
 rw [←hcd] at QC HQ
 have H0:=hid h0
 have HT:=hid hT
 have zA:QL 24 (w.alloc (.cells #[.bool n0,.slice a0 (limbs m).length c0,.int .i64 x0] 24)) w.heap.size n0 (.slice a0 (limbs m).length c0) x0:=QL.made rfl
 have yb:=below_alloc w (.cells #[.bool n0,.slice a0 (limbs m).length c0,.int .i64 x0] 24)
 clear h0 hl0 hT hA hd hm40 hcd hnr hl40
 go_enter Tryd.func3,Tryd.ntmps3
 go_upto_region 1 with fail
 refine wp_worldZ (fun WW=>Below w.heap.size w WW∧QL 24 WW w.heap.size n0 (.slice a0 (limbs m).length c0) x0) ⟨yb,zA⟩ ?_
 clear yb zA
 intro W1 ⟨yb1,zA⟩
 obtain ⟨⟨j0,j1,-⟩,j2,-⟩:=id zA
 go_upto_region 2 with (go_at_call 5;(with_reducible refine (EX.out _ (H0.out.below yb1) (HT.out.below yb1)).mono ?_);rintro en w2 ⟨D,er,⟨v2,rfl,⟨am,cm,rfl,hN2⟩,hb2⟩,hsaid⟩)
 refine wp_worldZ (fun WW=>Below w.heap.size w WW∧QL 24 WW w.heap.size n0 (.slice a0 (limbs m).length c0) x0∧DV 24 WW w2.heap.size D) ⟨below_trans (below_trans yb1 hb2) (below_alloc _ _),(zA.below hb2).below (below_alloc _ _),⟨am,cm,QL.made rfl,hN2.below (below_alloc _ _)⟩⟩ ?_
 obtain ⟨g5,hg5⟩: ∃g,g=w2.heap.size:=⟨_,rfl⟩
 rw [←hg5]
 clear hb2 yb1 zA hg5 j0 j1 j2 hN2
 intro W2 ⟨yb2,zA,z5⟩
 obtain ⟨⟨j0,j1,-⟩,j2,-⟩:=id zA
 go_upto_region 3 with (go_at_call 6;(with_reducible refine (AK.out _ (H0.out.below yb2)).mono ?_);rintro en w3 ⟨rfl,hb3⟩)
 have yb3:=below_trans yb2 hb3
 have zA3:=zA.below hb3
 have z53:=z5.below hb3
 clear yb2 zA z5 hb3 j0 j1 j2 AK EX
 obtain ⟨⟨j0,j1,-⟩,j2,-⟩:=id zA3
 unfold ExpSaid at hsaid
 rw [←HCD.out] at hsaid
 rcases hsaid with ⟨hc,rfl,rfl⟩|hs
 ·obtain ⟨am2,cm2,z6⟩:=z53.none_form
  clear z53 XF1 HQ HS HCD
  have hcT:decide (0<cd)=true:=decide_eq_true hc
  go_wp2_with (first
   |(go_at_call 9;(with_reducible refine (QO.out _ (H0.out.below yb3)).mono ?_);rintro en w4 ⟨v4,rfl,hq4,hb4⟩)
   |(go_at_call 8;(with_reducible refine (QA.out _ _ hq4).mono ?_);rintro en w5 ⟨v5,rfl,hq5,hb5⟩)
   |(go_at_call 11;(with_reducible refine (ON.out _).mono ?_);rintro en w6 ⟨v6,rfl,⟨a6,c6,rfl,m6⟩,hb6⟩)
   |(go_at_call 10;(with_reducible refine (QM.out _ _ _ m6).mono ?_);rintro en w7 ⟨v7,rfl,hq7,hb7⟩)
   |(go_at_call 7;(with_reducible refine (QC.out _ _ _ ((hq5.below hb6).below hb7) hq7).mono ?_);rintro en w8 ⟨rfl,hb8⟩;obtain ⟨⟨i0,i1,-⟩,i2,-⟩:=((((z6.below hb4).below hb5).below hb6).below hb7).below hb8)
   |(go_at_call 12;(refine (noDyad0_any _ _ _).mono ?_);rintro e w9 ⟨rfl,hb9⟩))
  refine bodyPost_ret (by simp [results,Tryd.results3,go_sem];try rfl) rfl ?_
  exact ⟨rfl,below_trans (below_trans (below_trans (below_trans (below_trans (below_trans yb3 hb4) hb5) hb6) hb7) hb8) hb9⟩
 ·obtain ⟨hc,rfl,hs2⟩: ¬0<cd∧er=0∧((m=0∧D=nrm 1 0)∨(0<m∧ ∃z:Nat,IsFl (dyQ m x0) n0 pl z∧D=nrm (z:Int) (-(pl:Int)))):=by
   rcases hs with ⟨a,b,c⟩|⟨a,b,c⟩
   ·exact ⟨a,b,.inl c⟩
   ·exact ⟨a,b,.inr c⟩
  have h8:=(HQ.out (by omega)).1
  obtain ⟨hXF,hbd,hbe⟩:=said_ok (by omega) h8 hs2
  have XFD:=hid (show ∀v w,QD 3 w (nrm (sg n0 (m:Int)) x0) 400000 200000 v→Calls Tryd.prog 14 #[v,.int .i64 (pl:Int)] w (RetQD 3 w D 20000 2000) from fun v w h=>(XF1.out v w h h8).mono (fun en w' hr=>by
   obtain ⟨E,hE,hr2⟩:=hr
   rw [hXF E hE] at hr2
   exact hr2))
  have TL:=hid (show ∀v u w,VD w D v→QD 3 w D 20000 2000 u→Calls Tryd.prog 13 #[v,.int .i64 0,u] w fun e w'=>e=.returned (.bool true)∧Below w.heap.size w w' from fun v u w k0 k1=>by
   have h:=told_any v u D 20000 2000 w (by rw [hbd];exact k0) k1 (by omega) (by omega)
   rw [hbe] at h
   exact h)
  have hcF:decide (0<cd)=false:=decide_eq_false hc
  clear hXF hbd hbe h8 hs hs2 HQ XF1 HS HCD
  go_upto_region 7 with (first
   |(go_at_call 9;(with_reducible refine (QO.out _ (H0.out.below yb3)).mono ?_);rintro en w4 ⟨v4,rfl,hq4,hb4⟩)
   |(go_at_call 8;(with_reducible refine (QA.out _ _ hq4).mono ?_);rintro en w5 ⟨v5,rfl,hq5,hb5⟩)
   |(go_at_call 11;(with_reducible refine (ON.out _).mono ?_);rintro en w6 ⟨v6,rfl,⟨a6,c6,rfl,m6⟩,hb6⟩)
   |(go_at_call 10;(with_reducible refine (QM.out _ _ _ m6).mono ?_);rintro en w7 ⟨v7,rfl,hq7,hb7⟩)
   |(go_at_call 7;(with_reducible refine (QC.out _ _ _ ((hq5.below hb6).below hb7) hq7).mono ?_);rintro en w8 ⟨rfl,hb8⟩;have hb48:=below_trans (below_trans (below_trans (below_trans hb4 hb5) hb6) hb7) hb8))
  have yb4:=below_trans (below_trans (below_trans (below_trans (below_trans yb3 hb4) hb5) hb6) hb7) hb8
  have zA4:=((((zA3.below hb4).below hb5).below hb6).below hb7).below hb8
  have z54:=((((z53.below hb4).below hb5).below hb6).below hb7).below hb8
  clear yb3 zA3 z53 hb4 hb5 hb6 hb7 hb8 hb48 hq4 hq5 m6 hq7 QA QM QC ON j0 j1 j2
  refine wp_region_grow 7 [37,38,39,40,41,42,43] [Fact.vd D,Fact.is (.int .i64 0),Fact.is (.agg #[.bool n0,.slice a0 (limbs m).length c0,.int .i64 x0]),Fact.q 3 (nrm (sg n0 (m:Int)) x0) 400000 200000,Fact.is (.int .i64 (pl:Int)),Fact.q 3 D 20000 2000,Fact.is (.bool true)] (by kernel_rfl) (by kernel_rfl) ⟨?o0,?o1,?o2,?o3,?o4,?o5,?o6,trivial⟩ ?after
  case o0=>(refine oQ rfl ?_;intro ρ w1 R hcon hfn hρ hb hp hR;have e5:ρ (.tmp 5)=.pointer (some ⟨g5,0,none⟩):=hρ.tmp 5 rfl;obtain ⟨qa,qc,⟨⟨j0,j1,-⟩,j2,-⟩,hqN⟩:=z54.below hb;clear hρ hp;unfold OpRun;go_simp;exact hR _ _ (Below.refl _ _) ⟨qa,qc,rfl,hqN⟩)
  case o1=>(refine oQ rfl ?_;intro ρ w1 R hcon hfn hρ hb hp hR;have e6:ρ (.tmp 6)=.int .i64 0:=hρ.tmp 6 rfl;clear hρ hp;unfold OpRun;go_simp;exact hR _ _ (Below.refl _ _) rfl)
  case o2=>(refine oQ rfl ?_;intro ρ w1 R hcon hfn hρ hb hp hR;have e2:ρ (.tmp 2)=.pointer (some ⟨w.heap.size,0,none⟩):=hρ.tmp 2 rfl;obtain ⟨⟨j0,j1,-⟩,j2,-⟩:=zA4.below hb;clear hρ hp;unfold OpRun;go_simp;exact hR _ _ (Below.refl _ _) rfl)
  case o3=>(refine oQ rfl ?_;intro ρ w1 R hcon hfn hρ hb hp hR;have e39:ρ (.tmp 39)=_:=hp 2 39 rfl rfl;clear hρ hp;unfold OpRun;go_simp;(refine (QO.out _ (H0.out.below (below_trans yb4 hb))).mono ?_;rintro e wn ⟨v9,rfl,hv9,hbn⟩;exact ⟨_,rfl,hR _ _ hbn hv9⟩))
  case o4=>(refine oQ rfl ?_;intro ρ w1 R hcon hfn hρ hb hp hR;have e1:ρ (.tmp 1)=.int .i64 (pl:Int):=hρ.tmp 1 rfl;clear hρ hp;unfold OpRun;go_simp;exact hR _ _ (Below.refl _ _) rfl)
  case o5=>(refine oQ rfl ?_;intro ρ w1 R hcon hfn hρ hb hp hR;have f40:=hp 3 40 rfl rfl;have e41:ρ (.tmp 41)=_:=hp 4 41 rfl rfl;clear hρ hp;unfold OpRun;go_simp;(refine (XFD.out _ _ f40).mono ?_;rintro e wn ⟨v9,rfl,hv9,hbn⟩;exact ⟨_,rfl,hR _ _ hbn hv9⟩))
  case o6=>(refine oQ rfl ?_;intro ρ w1 R hcon hfn hρ hb hp hR;have f37:=hp 0 37 rfl rfl;have e38:ρ (.tmp 38)=_:=hp 1 38 rfl rfl;have f42:=hp 5 42 rfl rfl;clear hρ hp;unfold OpRun;go_simp;(refine (TL.out _ _ _ f37 f42).mono ?_;rintro e wn ⟨rfl,hbn⟩;exact ⟨_,rfl,hR _ _ hbn rfl⟩))
  case after=>
   intro u wn hb hf
   have e43:u 43=_:=hf 6 43 (by omega) rfl
   clear hf
   simp only [putAll,Act.put,List.setIfInBounds_toArray,List.set_cons_zero,List.set_cons_succ,List.drop_succ_cons,List.drop_zero,List.drop_nil]
   rw [e43]
   go_wp2_with fail
   refine bodyPost_ret (by simp [results,Tryd.results3,go_sem];try rfl) rfl ?_
   exact ⟨rfl,below_trans yb4 hb⟩
theorem seriesExp_walk (n0:Bool) (L0:List Nat) (a0:Option Addr) (c0:Nat) (x0 pl:Int) (w:World) (h0:Ns .u32 w a0 c0 L0) (hl0:Lim L0) (wx0: -9223372036854775808≤x0∧x0≤9223372036854775807) (wp: -9223372036854775808≤pl∧pl≤9223372036854775807) (hT:Tab 0 w):
 Calls Tryd.prog 3 #[.agg #[.bool n0,.slice a0 L0.length c0,.int .i64 x0],.int .i64 pl] w fun e w'=>e=.returned (.bool true)∧Below w.heap.size w w':=by
 by_cases hA:askE n0 L0 x0 pl=0
 ·obtain ⟨hd,hp0,-,-⟩:=ask_zero hA
  obtain ⟨-,-,-,hL,-,-⟩:=dyadE_zero hl0 hd
  obtain ⟨m,hm⟩: ∃m,m=lval L0:=⟨_,rfl⟩
  rw [←hm] at hL
  clear hm
  subst hL
  obtain ⟨p,rfl⟩:=Int.eq_ofNat_of_zero_le hp0
  exact expLaw_m n0 a0 c0 m x0 p w h0 hl0 hA hT
 ·exact expLaw_bad n0 a0 c0 L0 x0 pl w h0 hl0 hA hT
end Go.Proofs.YtehhegbkahnhgaaDoor
namespace Go.Ulp
open Go.RowKit Go.WideShapes Go.ChangeShapes Go.Joins Go.Deep
section
variable {H:Type} {enc:TypeId×Value→H} {P:Program} {w:World} {base:Nat} {spare:Nat→Bool} {held:Bool}
theorem trodAll_still {w':World}: ∀ {ts:List TypeId} {vs:List Value} {ds:List (DataW H)} {ps:List MemPlace},DataW.TrodAll enc P w base spare held ts vs ds ps→(∀p∈ps,w.sameAt w' p)→DataW.TrodAll enc P w' base spare held ts vs ds ps
 | [],_,_,_,h,_=>by
   obtain ⟨rfl,rfl,rfl⟩:=trodAll_nil h
   exact trodAll_mk0
 |_::_,_,_,_,h,hs=>by
  obtain ⟨v,vs,d,ds,p,q,rfl,rfl,rfl,⟨n,h1⟩,h2⟩:=trodAll_cons h
  exact ⟨p,q,⟨n,DataW.trod_carry n _ _ _ h1 (fun x hx=>hs x (List.mem_append_left _ hx))⟩,trodAll_still h2 (fun x hx=>hs x (List.mem_append_right _ hx)),rfl⟩
theorem post_reads {f:Func} {s:ChangeSpec} {apart fresh handsOn:Bool} {W W':World} {args:Array Value} {v:Value} {ds:List (DataW H)} {p:List MemPlace}
 (hW:DataW.Whole enc P f.params.toList s.vars apart W args.toList ds [] (p++ [])) (hA:DataW.TrodAll enc P W 0 (fun _=>true) true f.params.toList args.toList ds p)
 (K:Kids P (· <P.types.size)) (full: ∀t e,t<P.types.size→P.underlying t=some (.slice e)→0<P.cellsOf e) (hts: ∀t∈f.params.toList,t<P.types.size)
 (hres: ∀b,DataW.TrodAll enc P W' b (fun _=>false) handsOn f.resultTypes.toList (v.resultList f.resultTypes.size) (s.fn H (ds++ [])).results [])
 (hargs:(s.fn H (ds++ [])).args=ds) (hvars:DataW.TrodVars enc P W' (fun b=>decide (b<W.heap.size)) s.vars (s.fn H (ds++ [])).vars [])
 (hb:Below W.heap.size W W'):s.post enc P f apart fresh handsOn false W args v W':=by
 have hlt: ∀x∈p,x.block<W.heap.size:=fun x hx=>hW.lt x (List.mem_append_left _ hx)
 have h1:=DataW.TrodAll.respare (spare':=fun b=>decide (b<W.heap.size)) K full hts hA (fun x hx=>by simpa using hlt x hx)
 have h2:=trodAll_still (w':=W') h1 (fun x hx=>hb.same (hlt x hx))
 refine ⟨ds,[],p++ [],[],p,[],hW,hres _,?_,hvars,hb.frame _,fun h=>by cases h⟩
 rw [hargs];exact h2
end
section
variable {H:Type} {enc:TypeId×Value→H} {P:Program} {w:World} {base:Nat} {spare:Nat→Bool} {held:Bool}
theorem read_nums0 {n:Nat} {t e:TypeId} {k:IntKind} {B:Nat} {v:Value} {y:DataW H×List MemPlace} (ht:P.underlying t=some (.slice e)) (he:P.underlying e=some (.int k)) (hc:P.cellsOf e=1)
 (hB: ∀z:Int,(Lit.int k z).wf=true→0≤z∧z<(B:Int)) (h:DataW.trod enc P w base spare held n t [v]=some y): ∃(L:List Nat) (ao:Option Addr) (cap:Nat),v=.slice ao L.length cap∧Ns k w ao cap L∧AllLt B L:=by
 rcases open_ints ht he hc h with ⟨hcs,_⟩|⟨a,len,cap,zs,hcs,_,hle,hmax,hlen,_,hcell,hwf⟩
 ·injection hcs with hcs
  exact ⟨[],none,0,hcs,Ns.nil,AllLt.nil⟩
 ·injection hcs with hcs
  have hzl:len≤zs.length:=by rw [hlen];split<;>omega
  have hbd: ∀z∈zs,0≤z∧z<(B:Int):=fun z hz=>hB z (hwf z hz)
  refine ⟨(zs.take len).map Int.toNat,some a,cap,?_,⟨?_,hmax,fun hp=>?_⟩,?_⟩
  ·rw [hcs,List.length_map,List.length_take,Nat.min_eq_left hzl]
  ·rw [List.length_map,List.length_take,Nat.min_eq_left hzl];exact hle
  ·rw [List.length_map,List.length_take,Nat.min_eq_left hzl] at hp ⊢
   obtain ⟨b,off,e1,hcl⟩:=ints_at hcell (by omega)
   refine ⟨b,off,by rw [e1],fun i hi=>?_⟩
   rw [hcl i (by omega)]
   have hi2:i<zs.length:=by omega
   have hz:=hbd zs[i] (List.getElem_mem hi2)
   have e2:zs.getD i 0=zs[i]:=by simp [List.getD,List.getElem?_eq_getElem hi2]
   unfold lb
   have e3:((zs.take len).map Int.toNat).getD i 0=zs[i].toNat:=by simp [List.getD,List.getElem?_take,hi,List.getElem?_eq_getElem hi2]
   rw [e2,e3]
   congr 2
   omega
  ·intro d hd
   obtain ⟨z,hz,rfl⟩:=List.mem_map.1 hd
   have:=hbd z (List.mem_of_mem_take hz)
   omega
end
section
variable {H:Type} {enc:TypeId×Value→H} {P:Program} {w:World} {base:Nat} {spare:Nat→Bool} {held:Bool}
theorem read_dyad {r:Reach} {b0:Nat} {t e:TypeId} {f0 f1 f2:Field} {v:Value} {d:DataW H} {p:List MemPlace} (hs:P.underlying t=some (.struct #[f0,f1,f2])) (hone:oneCellFields P #[f0,f1,f2]=true) (hC:P.cellsOf t=3)
 (h0:P.underlying f0.type=some .bool) (h1:P.underlying f1.type=some (.slice e)) (he:P.underlying e=some (.int .u32)) (hc:P.cellsOf e=1) (h2:P.underlying f2.type=some (.int .i64))
 (hv:Value.okWide P w r b0 t v) (h:DataW.Trod enc P w base spare held t v d p):
 ∃(n:Bool) (L:List Nat) (ao:Option Addr) (cap:Nat) (x:Int),v=.agg #[.bool n,.slice ao L.length cap,.int .i64 x]∧Ns .u32 w ao cap L∧Lim L∧(-9223372036854775808≤x∧x≤9223372036854775807):=by
 obtain ⟨v0,v1,v2,y0,y1,y2,n,rfl,_,_,g0,g1,g2⟩:=open_agg3 hs hone hC hv h
 obtain ⟨b,e0,_⟩:=DataW.trod_bool h0 g0
 obtain ⟨L,ao,cap,rfl,hN,hL⟩:=read_nums0 (B:=4294967296) h1 he hc (fun z hz=>by have:=bounds_u32 hz;omega) g1
 obtain ⟨a,e2,_,hw⟩:=DataW.trod_int h2 g2
 have:=bounds_i64 hw
 injection e0 with e0
 injection e2 with e2
 exact ⟨b,L,ao,cap,a,by rw [e0,e2],hN,hL,by omega⟩
end
end Go.Ulp
namespace Go.Proofs.YtehhegbkahnhgaaDoor
open Go Go.RowKit Go.Ulp Go.ChangeShapes Go.WideShapes Go.ChangeAt
def laidT : List (String × DataW Unit) := [("math/bits.deBruijn32tab", Rows.laid_math_bits_deBruijn32tab)]
theorem gTab : Tryd.prog.globalNamed "math/bits.deBruijn32tab" = some 0 := by kernel_rfl
def tabZ:List Int:=Lib.deBruijn32tab.map fun n:Nat=>(n:Int)
theorem laidT_eq : laidT = [("math/bits.deBruijn32tab", Lib.tabData .u8 tabZ)] := by rfl
theorem tab_of_laid {W:World} (h:laidMetH Tryd.prog laidT W):Tab 0 W:=by
 rw [MakeChecks.laidMetH_plain _ _ _ (by kernel_rfl),laidT_eq] at h
 have h1:=Lib.tabIs_of_head gTab (by kernel_rfl) Tryd.underlying107 Tryd.underlying5 (by kernel_rfl) (by kernel_rfl) h
 intro j hj
 have h2:=h1.cell gTab j (by unfold tabZ;rw [List.length_map];exact hj)
 rw [h2]
 unfold tabZ
 congr 2
 rw [List.getD_eq_getElem?_getD,List.getElem?_map,List.getElem?_eq_getElem hj,List.getD_eq_getElem?_getD,List.getElem?_eq_getElem hj];rfl
theorem door_met (os:Os) (args:Array Value):laidMetH Tryd.prog laidT ((World.doorLaid Tryd.prog 400 os).forCall (fun _ _=>0) ⟨#[],args,[]⟩).memory:=
 laidMetH_of_parts3 (fuel:=8) (laidMet_of_run' 8 (by kernel_rfl) (by kernel_rfl)) (by kernel_rfl) (by kernel_rfl)
end Go.Proofs.YtehhegbkahnhgaaDoor
