/- ExpoExps: what the proof leans on, part 27 (Rb1 Li0 Eg6). -/
import Derived.Test.YtehhegbkahnhgaaGreatDoorKExpoExps15
import Derived.Test.YtehhegbkahnhgaaGreatDoorKExpoExps18
import Derived.Test.YtehhegbkahnhgaaGreatDoorKExpoExps22
import Derived.Test.YtehhegbkahnhgaaGreatDoorKExpoExps26
set_option linter.unusedVariables false
set_option linter.unusedSimpArgs false
namespace Go.Ulp
open Go.RowKit
def RetRB (neg:Bool) (A B:Nat) (mode:Int) (w:World) (e:Ending) (w':World):Prop:=
 ∃l:Int,0≤l∧l<9218868437227405312∧rdC 1074 A B l≤0∧(l+1=9218868437227405312∨0<rdC 1074 A B (l+1))∧
  e=.returned (.tuple #[.int .u64 ((rdA 1074 A B (if neg=true then swM mode else mode) l).1+sgb neg),.bool (rdA 1074 A B (if neg=true then swM mode else mode) l).2])∧Below w.heap.size w w'
theorem rkD_mid (l:Int):shD (addD (rkD l) (rkD (l+1))) (-1)=nrm (rvs l+rvs (l+1)) (-((1075:Nat):Int)):=by
 unfold rkD
 rw [←nrm_add (rvs l) (-1074) (rvs (l+1)) (-1074) (-1074) (.inl (Int.le_refl _)) (.inl (Int.le_refl _)),sc_self,sc_self,←nrm_shift]
 rfl
theorem rdM_midK (K A B:Nat) (l:Int):cmpI ((rvs l+rvs (l+1))*(B:Int)) ((A:Int)*pw (K+1))=rdM K A B l:=by
 unfold rdM
 rw [pw_add,show pw 1=2 by decide]
 generalize pw K=P
 rw [←Int.mul_assoc,Int.mul_comm _ 2]
theorem rdM_mid (A B:Nat) (l:Int):cmpI ((rvs l+rvs (l+1))*(B:Int)) ((A:Int)*pw 1075)=rdM 1074 A B l:=rdM_midK 1074 A B l
theorem rdC_zero (K A B:Nat):rdC K A B 0≤0:=by
 unfold rdC
 have h0:rvs 0=0:=by rw [show (0:Int)=((0:Nat):Int) from rfl,rvs_nat9,rvi_zero]
 rw [h0,Int.zero_mul]
 have h1:0≤(A:Int)*pw K:=Int.mul_nonneg (by omega) (Int.le_of_lt (pw_pos K))
 generalize (A:Int)*pw K=q at *
 unfold cmpI
 split
 ·omega
 ·split<;>omega
def rbU (neg:Bool) (mode near l:Int):Bool:=(decide (mode=1)&&!neg)||(decide (mode=2)&&neg)||(decide (mode=0)&&(decide (0<near)||(decide (near=0)&&decide (l%2=1))))||(decide (mode=4)&&decide (0≤near))
theorem rbU_eq (neg:Bool) (A B:Nat) (mode l:Int) (m0:0≤mode) (m1:mode≤4):rbU neg mode (-rdM 1074 A B l) l=rdU 1074 A B (if neg=true then swM mode else mode) l:=by
 unfold rbU rdU swM
 generalize rdM 1074 A B l=M
 have:mode=0∨mode=1∨mode=2∨mode=3∨mode=4:=by omega
 rw [Bool.eq_iff_iff]
 rcases this with h|h|h|h|h<;>subst h<;>cases neg<;>simp<;>omega
theorem rdA_up (K A B:Nat) (mode l:Int) (h:rdC K A B l≠0) (u:Bool) (hu:rdU K A B mode l=u):rdA K A B mode l=(if u=true then l+1 else l,true):=by
 unfold rdA;rw [if_neg h,hu];cases u<;>rfl
end Go.Ulp
namespace Go.Proofs.YtehhegbkahnhgaaGreatDoor
open Go.RowKit Go.Ulp
set_option maxHeartbeats 2000000
set_option maxRecDepth 100000
theorem zl_ten_le4 {x E:Nat} (h:x≤10^E):(zl (x:Int)).length≤E/4+1:=
 Nat.le_trans (zl_len_le (x:=((x:Nat):Int)) (y:=tenZ E) (by unfold tenZ;rw [Int.natAbs_natCast,Int.natAbs_natCast];exact h)) (zl_len_ten4 E)
theorem readBits_any (neg:Bool) (L:List UInt8) (k mode:Int) (w:World) (hL:AllDg L) (h1:1≤L.length) (hl:L.length≤3100000000) (hk: -4000000000≤k∧k≤4000000000) (m0:0≤mode) (m1:mode≤4):
 Calls Tryz.prog 96 #[.bool neg,.string (bsOf L),.int .i64 k,.int .i64 mode] w (RetRB neg (rdNum (dvl L) L.length k) (rdDen L.length k) mode w):=by
 have hne:((bsOf L).toList== [])=false:=by
  rw [bs_toList];exact beq_eq_false_iff_ne.2 (fun h=>by rw [h] at h1;exact absurd h1 (by decide))
 have hsz:=bs_size L
 obtain ⟨K,hK⟩: ∃K,K=rkc L.length k:=⟨_,rfl⟩
 have hK1: -3100002500≤K∧K≤2500:=by rw [hK];unfold rkc;omega
 have wk:IntKind.i64.wrap (-2500-(L.length:Int))= -2500-(L.length:Int):=IntWalk.i64_in _ (by omega)
 have HKK:=hid (show min (max k (-2500-(L.length:Int))) 2500=K by rw [hK];rfl)
 have ZG:=hid (fun w=>zDigits_any L w hL hl)
 obtain ⟨V,hV⟩: ∃V,V=dvl L:=⟨_,rfl⟩
 obtain ⟨E,hE⟩: ∃E:Nat,E=3100000000:=⟨_,rfl⟩
 have hVb:V≤10^E:=by
  have h9:=dvl_lt L hL
  have h8:10^L.length≤10^E:=Nat.pow_le_pow_right (by omega) (by omega)
  omega
 have lV:=zl_ten_le4 hVb
 have hmf: ∀fn first cap w,(Instr.makeFunc fn first cap).run Tryz.prog w=.ok (.func fn first cap) w:=fun _ _ _ _=>rfl
 obtain ⟨A,hA⟩: ∃A,A=rdNum V L.length k:=⟨_,rfl⟩
 obtain ⟨B,hB⟩: ∃B,B=rdDen L.length k:=⟨_,rfl⟩
 rw [←hV,←hA,←hB]
 rw [←hV] at ZG
 have hA2:(A:Int)=(V:Int)*tenZ K.toNat:=by rw [hA,hK];unfold rdNum tenZ;rw [Int.natCast_mul]
 have hB2:(B:Int)=tenZ (-K).toNat:=by rw [hB,hK];rfl
 have lA:(zl (A:Int)).length≤900000000:=by
  obtain ⟨F,hF⟩: ∃F:Nat,F=2500:=⟨_,rfl⟩
  have:A≤10^(E+F):=by
   rw [hA];unfold rdNum
   rw [Nat.pow_add]
   exact Nat.mul_le_mul hVb (Nat.pow_le_pow_right (by omega) (by omega))
  exact Nat.le_trans (zl_ten_le4 this) (by omega)
 have lB:(zl (B:Int)).length≤900000000:=by
  obtain ⟨F,hF⟩: ∃F:Nat,F=3100002500:=⟨_,rfl⟩
  have:B≤10^F:=by
   rw [hB];unfold rdDen
   exact Nat.pow_le_pow_right (by omega) (by omega)
  exact Nat.le_trans (zl_ten_le4 this) (by omega)
 have HA2:=hid hA2
 have HB2:=hid hB2
 clear hA hB hA2 hB2 hV hVb hK
 go_enter Tryz.func96,Tryz.ntmps96
 go_upto_region 4 with fail
 rw [HKK.out]
 go_upto_region 5 with (go_at_call 124;(with_reducible refine (ZG.out _).mono ?_);rintro en w1 ⟨v1,rfl,⟨a1,c1,rfl,n1⟩,hb1⟩)
 have zz:=zv_made (tz:=47) n1 w1.heap.size rfl
 refine wp_worldZ (fun WW=>Below w.heap.size w WW∧ZV 47 3 WW w1.heap.size (V:Int)) ⟨below_trans hb1 (below_alloc _ _),zz⟩ ?_
 intro W1 ⟨y1,z1⟩
 obtain ⟨g10,hg10⟩: ∃g,g=w1.heap.size:=⟨_,rfl⟩
 rw [←hg10] at z1 ⊢
 clear hg10 zz n1 hb1 HKK ZG wk hne
 refine wp_region_growF 4 [31,32,11,12] [Fact.z 3 ((V:Int)),Fact.z 3 (1),Fact.z0 W1.heap.size 47,Fact.z0 W1.heap.size 47] [2,3] (by kernel_rfl) (by kernel_rfl) ⟨?o0,?o1,?o2,?o3,trivial⟩ ?after
 case o0=>(refine oQF rfl ?_;intro ρ w1 R hcon hfn hρ hb hp hR;have e10:ρ (.tmp 10)=.pointer (some ⟨g10,0,none⟩):=hρ.tmp 10 rfl;obtain ⟨ya9,yc9,yj9,yn9⟩:=ZV.below z1 hb;obtain ⟨j90,j91,-⟩:=yj9;replace hR:=fun v w2 h1 h2=>hR v w2 h1 h2 (fun h=>absurd h (by decide));clear hρ hp;unfold OpRun;go_simp;exact hR _ _ (Below.refl _ _) ⟨ya9,yc9,rfl,yn9⟩)
 case o1=>(refine oQF rfl ?_;intro ρ w1 R hcon hfn hρ hb hp hR;replace hR:=fun v w2 h1 h2=>hR v w2 h1 h2 (fun h=>absurd h (by decide));clear hρ hp;unfold OpRun;go_simp;(refine (zND _ (by omega) (by omega) _).mono ?_;rintro e wn ⟨v9,rfl,hz9,hbn⟩;exact ⟨_,rfl,hR _ _ hbn hz9⟩))
 case o2=>(refine oQF rfl ?_;intro ρ w1 R hcon hfn hρ hb hp hR;clear hρ hp;unfold OpRun;go_simp;exact hR _ _ (below_alloc _ _) ⟨_,rfl,hb.size,ZL.made rfl⟩ (fun _=>⟨_,rfl,Nat.le_refl _,by simp⟩))
 case o3=>(refine oQF rfl ?_;intro ρ w1 R hcon hfn hρ hb hp hR;clear hρ hp;unfold OpRun;go_simp;exact hR _ _ (below_alloc _ _) ⟨_,rfl,hb.size,ZL.made rfl⟩ (fun _=>⟨_,rfl,Nat.le_refl _,by simp⟩))
 case after=>
  intro u wn hb hf hd
  have f31:=hf 0 31 (by omega) rfl
  have f32:=hf 1 32 (by omega) rfl
  have f11:=hf 2 11 (by omega) rfl
  have f12:=hf 3 12 (by omega) rfl
  have d11_12:u 11≠u 12:=hd 2 3 11 12 (by omega) (by omega) (by omega) rfl rfl rfl rfl
  clear hf hd
  simp only [putAll,Act.put,List.setIfInBounds_toArray,List.set_cons_zero,List.set_cons_succ,List.drop_succ_cons,List.drop_zero,List.drop_nil]
  obtain ⟨xa1,xc1,xe1,xn1⟩:=f31
  obtain ⟨xa2,xc2,xe2,xn2⟩:=f32
  obtain ⟨gv11,eg1,hg1,zz1⟩:=f11
  obtain ⟨gv12,eg2,hg2,zz2⟩:=f12
  have gne:gv11≠gv12:=by intro h;apply d11_12;rw [eg1,eg2,h]
  rw [xe1,xe2,eg1,eg2]
  clear xe1 xe2 eg1 eg2 d11_12
  have zst:=zv_store2 (by decide) hb hg1 hg2 gne zz1 zz2 xn1 xn2
  obtain ⟨k0,k1,kf0,kf1,-⟩:=id zz1
  obtain ⟨l0,l1,lf0,lf1,-⟩:=id zz2
  go_upto_region 6 with fail
  clear k0 k1 kf0 kf1 l0 l1 lf0 lf1 zz1 zz2 xn1 xn2 hb
  refine wp_worldZ (fun WW=>Below _ _ WW∧ZV _ _ WW _ _∧ZV _ _ WW _ _) zst ?_
  clear zst
  intro W2 ⟨y12,z11,z12⟩
  have y2:=below_trans y1 y12
  have s1:=y1.size
  have b11:w.heap.size≤gv11:=by omega
  have b12:w.heap.size≤gv12:=by omega
  clear z1 y1 y12 hg1 hg2 s1
  go_upto_if 34 with fail
  go_cut [] (fun wx=>Below w.heap.size w wx∧ZV 47 3 wx gv11 (A:Int)∧ZV 47 3 wx gv12 (B:Int))
  case first=>as_aux_lemma=>
   by_cases hk0:0≤K
   ·obtain ⟨p,rfl⟩:=Int.eq_ofNat_of_zero_le hk0
    have eB:(1:Int)=(B:Int):=by rw [HB2.out,show (-(p:Int)).toNat=0 by omega];rfl
    have eA:(V:Int)*tenZ p=(A:Int):=by rw [HA2.out,Int.toNat_natCast]
    have lV2:(zl (V:Int)).length≤900000000:=by omega
    have lp:=Nat.le_trans (zl_len_ten p) (show p+1≤100000000 by omega)
    go_upto_region 7 with fail
    refine wp_region_grow 4 [35,36,37,38] [Fact.z 3 ((V:Int)),Fact.is (.int .i64 (p:Int)),Fact.z 3 (tenZ p),Fact.z 3 (((V:Int))*(tenZ p))] (by kernel_rfl) (by kernel_rfl) ⟨?o0,?o1,?o2,?o3,trivial⟩ ?after
    case o0=>(refine oQ rfl ?_;intro ρ w1 R hcon hfn hρ hb hp hR;have e11:ρ (.tmp 11)=.pointer (some ⟨gv11,0,none⟩):=hρ.tmp 11 rfl;obtain ⟨ya9,yc9,yj9,yn9⟩:=ZV.below z11 hb;obtain ⟨j90,j91,-⟩:=yj9;clear hρ hp;unfold OpRun;go_simp;exact hR _ _ (Below.refl _ _) ⟨ya9,yc9,rfl,yn9⟩)
    case o1=>(refine oQ rfl ?_;intro ρ w1 R hcon hfn hρ hb hp hR;have e2:ρ (.tmp 2)=.int .i64 (p:Int):=hρ.tmp 2 rfl;clear hρ hp;unfold OpRun;go_simp;exact hR _ _ (Below.refl _ _) rfl)
    case o2=>(refine oQ rfl ?_;intro ρ w1 R hcon hfn hρ hb hp hR;have e36:ρ (.tmp 36)=_:=hp 1 36 rfl rfl;clear hρ hp;unfold OpRun;go_simp;(refine (zTenD p _ (by first|assumption|omega)).mono ?_;rintro e wn ⟨v9,rfl,hz9,hbn⟩;exact ⟨_,rfl,hR _ _ hbn hz9⟩))
    case o3=>(refine oQ rfl ?_;intro ρ w1 R hcon hfn hρ hb hp hR;have f35:=hp 0 35 rfl rfl;have f37:=hp 2 37 rfl rfl;clear hρ hp;unfold OpRun;go_simp;(refine (zmulD _ _ _ _ _ f35 f37 (by first|assumption|omega) (by first|assumption|omega)).mono ?_;rintro e wn ⟨v9,rfl,hz9,hbn⟩;exact ⟨_,rfl,hR _ _ hbn hz9⟩))
    case after=>
     intro u wn hb hf
     have f38:=hf 3 38 (by omega) rfl
     clear hf
     simp only [putAll,Act.put,List.setIfInBounds_toArray,List.set_cons_zero,List.set_cons_succ,List.drop_succ_cons,List.drop_zero,List.drop_nil]
     obtain ⟨a6,c6,e38,n6⟩:=f38
     rw [e38]
     have yb:=below_trans y2 hb
     have z12a:=z12.below hb
     obtain ⟨a3,c3,zl3,n3⟩:=z11.below hb
     have zst:=zv_store1 (by decide) yb b11 zl3 n6
     have z12b:=z12a.set2 (zl3.2.2.2.2) (by decide) (Ne.symm gne) (.bool (zneg ((V:Int)*tenZ p))) (.slice a6 (zl ((V:Int)*tenZ p)).length c6)
     obtain ⟨k0,k1,kf0,kf1,-⟩:=id zl3
     have HZ:=hid (And.intro zst z12b)
     have EA:=hid eA
     have EB:=hid eB
     clear zst z12b z12a n3 e38 eA eB
     go_wp2_with fail
     go_meet
     exact ⟨HZ.out.1.1,HZ.out.1.2.cast EA.out,HZ.out.2.cast EB.out⟩
   ·obtain ⟨p,hp⟩: ∃p:Nat,K= -(p:Int):=⟨(-K).toNat,by omega⟩
    subst hp
    have eB:tenZ p=(B:Int):=by rw [HB2.out,Int.neg_neg,Int.toNat_natCast]
    have eA:(V:Int)=(A:Int):=by rw [HA2.out,show (-(p:Int)).toNat=0 by omega];exact (Int.mul_one _).symm
    have ZP:=hid (fun w=>zTenD p w (by omega))
    have wp:IntKind.i64.wrap (p:Int)=(p:Int):=IntWalk.i64_in _ (by omega)
    have hp2: ¬0≤ -(p:Int):=hk0
    have HEA:=hid eA
    have HEB:=hid eB
    clear eA eB hk0
    go_upto_region 8 with fail
    go_wp2_with (go_at_call 60;(with_reducible refine (ZP.out _).mono ?_);rintro en w3 ⟨v3,rfl,⟨a3,c3,rfl,n3⟩,hb3⟩;obtain ⟨a4,c4,zl4,n4⟩:=z12.below hb3;obtain ⟨k0,k1,kf0,kf1,-⟩:=id zl4;have HZ:=hid (And.intro (zv_store1 (by decide) (below_trans y2 hb3) b12 zl4 n3) ((z11.below hb3).set2 (zl4.2.2.2.2) (by decide) gne (.bool (zneg (tenZ p))) (.slice a3 (zl (tenZ p)).length c3))))
    go_meet
    exact ⟨HZ.out.1.1,HZ.out.2.cast HEA.out,HZ.out.1.2.cast HEB.out⟩
  case rest=>
   obtain ⟨yb,zA,zB⟩:=hcut
   obtain ⟨W3,hW3⟩: ∃W,W=wc:=⟨_,rfl⟩
   subst hW3
   clear HA2 HB2 z11 z12 y2
   have RV:=hid (fun r h0 h1 w=>rankVal_any r h0 h1 w)
   have RK:=hid (fun r h0 h1 w=>ranked_any r h0 h1 w)
   have CM:=hid (fun v r w hq zb za=>rbCmp_any v (rkD r) 1200 1100 (rvs r) (A:Int) (B:Int) 1074 gv11 gv12 w hq rfl (by omega) (by omega) zb za (by omega) (by omega))
   have QA:=hid (fun v u r s w h1 h2=>qadd_any v u (rkD r) (rkD s) 1200 1100 1200 1100 w h1 h2 (by omega) (by omega) (by omega) (by omega))
   obtain ⟨c,hc⟩: ∃c,c=fun r=>rdC 1074 A B r:=⟨_,rfl⟩
   have HC:=hid (fun r=>(show c r=rdC 1074 A B r by rw [hc]))
   have hc0:c 0≤0:=by rw [hc];exact rdC_zero 1074 A B
   clear hc
   go_upto_block 0 with fail
   go_cut [14,15,16] (fun s14 s15 s16 wx=> ∃l:Int,s14=.int .i64 l∧0≤l∧l<9218868437227405312∧c l≤0∧(l+1=9218868437227405312∨0<c (l+1))∧Below W3.heap.size W3 wx)
   case first=>as_aux_lemma=>
    go_wp2_with fail
    go_loopw [14,15,16] (fun s14 s15 s16 wr=> ∃lo hi:Int,s14=.int .i64 lo∧s15=.int .i64 hi∧0≤lo∧lo<hi∧hi≤9218868437227405312∧c lo≤0∧(hi=9218868437227405312∨0<c hi)∧Below W3.heap.size W3 wr) (fun s14 s15 _ _=>(intOf s15-intOf s14).toNat)
    case atStart=>exact ⟨0,_,rfl,rfl,by omega,by omega,by omega,hc0,.inl rfl,Below.refl _ _⟩
    case round=>
     obtain ⟨lo,hi,rfl,rfl,b1,b2,b3,hlo,hhi,hb⟩:=hrel
     have HLO:=hid hlo
     have HHI:=hid hhi
     clear hlo hhi hc0
     have w0:IntKind.i64.wrap (hi-lo)=hi-lo:=IntWalk.i64_in _ (by omega)
     by_cases hlt:1<hi-lo
     ·obtain ⟨td,tc,e1,e2,e3,e4,e5⟩:=tdiv2 (hi-lo)
      have w1:IntKind.i64.wrap td=td:=IntWalk.i64_in _ (by omega)
      obtain ⟨m,hm⟩: ∃m,m=lo+td:=⟨_,rfl⟩
      have w2:IntKind.i64.wrap m=m:=IntWalk.i64_in _ (by omega)
      have em:lo+td=m:=hm.symm
      have BND:=hid (show lo<m∧m<hi by omega)
      have RVm:=hid (fun w=>RV.out m (by omega) (by omega) w)
      have CMm:=hid (fun v w hq zb za=>by
       have h:=CM.out v m w hq zb za
       rwa [show cmpI (rvs m*(B:Int)) ((A:Int)*pw 1074)=c m from (HC.out m).symm] at h)
      obtain ⟨cm,hcm⟩: ∃x,x=c m:=⟨_,rfl⟩
      have HCM:=hid hcm
      rw [←hcm] at CMm
      have HBS:=hid (And.intro b1 b3)
      clear hm e3 e4 e5 hcm b1 b2 b3
      by_cases hs:cm≤0
      ·go_wp2_with (first
        |(go_at_call 84;(with_reducible refine (RVm.out _).mono ?_);rintro en w4 ⟨v4,rfl,hq4,hb4⟩)
        |(go_at_call 125;(with_reducible refine (CMm.out _ _ hq4 (zB.below (below_trans hb hb4)) (zA.below (below_trans hb hb4))).mono ?_);rintro en w5 ⟨rfl,hb5⟩))
       go_roundw
       case rel=>exact ⟨m,hi,rfl,rfl,by have:=BND.out;have:=HBS.out;omega,by have:=BND.out;omega,HBS.out.2,by rw [←HCM.out];exact hs,HHI.out,below_trans (below_trans hb hb4) hb5⟩
       case measure=>simp [intOf];have:=BND.out;omega
      ·go_wp2_with (first
        |(go_at_call 84;(with_reducible refine (RVm.out _).mono ?_);rintro en w4 ⟨v4,rfl,hq4,hb4⟩)
        |(go_at_call 125;(with_reducible refine (CMm.out _ _ hq4 (zB.below (below_trans hb hb4)) (zA.below (below_trans hb hb4))).mono ?_);rintro en w5 ⟨rfl,hb5⟩))
       go_roundw
       case rel=>exact ⟨lo,m,rfl,rfl,HBS.out.1,by have:=BND.out;omega,by have:=BND.out;have:=HBS.out;omega,HLO.out,.inr (by rw [←HCM.out];omega),below_trans (below_trans hb hb4) hb5⟩
       case measure=>simp [intOf];have:=BND.out;omega
     ·go_wp2_with fail
      go_meet
      exact ⟨lo,rfl,b1,by omega,HLO.out,by rw [show lo+1=hi by omega];exact HHI.out,hb⟩
   case rest=>
    obtain ⟨l,rfl,l0,l1,l2,l3,yb4⟩:=hcut
    have HL:=hid (And.intro l2 l3)
    clear l2 l3 hc0
    obtain ⟨W4,hW4⟩: ∃W,W=wc:=⟨_,rfl⟩
    subst hW4
    have yb5:=below_trans yb yb4
    replace zA:=zA.below yb4
    replace zB:=zB.below yb4
    clear yb yb4
    obtain ⟨mm,hmm⟩: ∃mm,mm=if neg=true then swM mode else mode:=⟨_,rfl⟩
    have HRT:=hid (show ∀(x:Int) (b:Bool) (e:Ending) (wz:World),rdA 1074 A B mm l=(x,b)→e=.returned (.tuple #[.int .u64 (x+sgb neg),.bool b])→Below w.heap.size w wz→RetRB neg A B mode w e wz from fun x b e wz h1 h2 h3=>by
     refine ⟨l,l0,l1,?_,?_,?_,h3⟩
     ·rw [←HC.out];exact HL.out.1
     ·rw [←HC.out];exact HL.out.2
     ·rw [←hmm,h1];exact h2)
    have HMM:=hid hmm
    have RVl:=hid (fun w=>RV.out l (by omega) (by omega) w)
    have RVk:=hid (fun w=>RV.out (l+1) (by omega) (by omega) w)
    have CMl:=hid (fun v w hq zb za=>by
     have h:=CM.out v l w hq zb za
     rwa [show cmpI (rvs l*(B:Int)) ((A:Int)*pw 1074)=c l from (HC.out l).symm] at h)
    by_cases hz:c l=0
    ·have HAN:=hid (show rdA 1074 A B mm l=(l,false) by unfold rdA;rw [←HC.out,if_pos hz])
     have RKl:=hid (fun w=>by have h:=RK.out l (by omega) (by omega) w;rwa [ranked_pos l l0] at h)
     have SG:=hid (fun w=>rSigned_any l l0 (by omega) neg w)
     rw [hz] at CMl
     clear hz hmm
     go_wp2_with (first
      |(go_at_call 84;(with_reducible refine (RVl.out _).mono ?_);rintro en w4 ⟨v4,rfl,hq4,hb4⟩)
      |(go_at_call 125;(with_reducible refine (CMl.out _ _ hq4 (zB.below hb4) (zA.below hb4)).mono ?_);rintro en w5 ⟨rfl,hb5⟩)
      |(go_at_call 85;(with_reducible refine (RKl.out _).mono ?_);rintro en w6 ⟨rfl,rfl⟩)
      |(go_at_call 32;(with_reducible refine (SG.out _).mono ?_);rintro en w7 ⟨rfl,rfl⟩))
     go_ret2
     exact HRT.out _ _ _ _ HAN.out rfl (below_trans (below_trans yb5 hb4) hb5)
    ·have HNZ:=hid (show rdC 1074 A B l≠0 by rw [←HC.out];exact hz)
     have hz2:(c l==0)=false:=beq_eq_false_iff_ne.2 hz
     generalize c l=cl at CMl hz2
     obtain ⟨md,hmd⟩: ∃m,m=rdM 1074 A B l:=⟨_,rfl⟩
     have hmb: -1≤md∧md≤1:=by
      rw [hmd];unfold rdM cmpI
      split
      ·omega
      ·split<;>omega
     obtain ⟨near,hnr⟩: ∃n,n= -md:=⟨_,rfl⟩
     have wn9:IntKind.i64.wrap (-md)=near:=by rw [IntWalk.i64_in _ (by omega)];exact hnr.symm
     have QAl:=hid (fun v u w h1 h2=>QA.out v u l (l+1) w h1 h2)
     obtain ⟨k9,hk9⟩: ∃k9:Nat,k9=1075:=⟨_,rfl⟩
     have hmid:shD (addD (rkD l) (rkD (l+1))) (-1)=nrm (rvs l+rvs (l+1)) (-(k9:Int)):=by rw [hk9];exact rkD_mid l
     have hmv:cmpI ((rvs l+rvs (l+1))*(B:Int)) ((A:Int)*pw k9)=md:=by rw [hk9,hmd];exact rdM_mid A B l
     obtain ⟨AA9,hAA9⟩: ∃a:Nat,a=max 1200 1200+max 1100 1100+1:=⟨_,rfl⟩
     obtain ⟨TT9,hTT9⟩: ∃a:Nat,a=max 1100 1100:=⟨_,rfl⟩
     rw [←hAA9,←hTT9] at QAl
     have QS:=hid (fun v w h=>qshift_any v (addD (rkD l) (rkD (l+1))) AA9 TT9 (-1) w h (by omega) (by omega) (by omega) (by omega))
     obtain ⟨DM,hDM⟩: ∃D,D=shD (addD (rkD l) (rkD (l+1))) (-1):=⟨_,rfl⟩
     rw [←hDM] at QS hmid
     have CMd:=hid (fun v w hq zb za=>by
      have h:=rbCmp_any v DM (AA9+400000) 400000 (rvs l+rvs (l+1)) (A:Int) (B:Int) k9 gv11 gv12 w hq hmid (by omega) (by omega) zb za (by omega) (by omega)
      rwa [hmv] at h)
     clear hDM hmid hmv hk9 hAA9 hTT9
     obtain ⟨u,hu⟩: ∃u,u=rbU neg mode near l:=⟨_,rfl⟩
     have HAN:=hid (show rdA 1074 A B mm l=(if u=true then l+1 else l,true) from rdA_up _ _ _ _ _ HNZ.out u (by rw [HMM.out,hu,hnr,hmd];exact (rbU_eq neg A B mode l m0 m1).symm))
     have HU:=hid hu
     clear hz hmm hmd hnr hmb hu HNZ HMM HC HL RV QA CM
     have w1:IntKind.i64.wrap (l+1)=l+1:=IntWalk.i64_in _ (by omega)
     generalize rkD l=K1 at *
     generalize rkD (l+1)=K2 at *
     go_upto_if 64 with (first
      |(go_at_call 84;(with_reducible refine (RVl.out _).mono ?_);rintro en w4 ⟨v4,rfl,hq4,hb4⟩)
      |(go_at_call 125;(with_reducible refine (CMl.out _ _ hq4 (zB.below hb4) (zA.below hb4)).mono ?_);rintro en w5 ⟨rfl,hb5⟩))
     obtain ⟨W5,hW5⟩: ∃W,W=w5:=⟨_,rfl⟩
     subst hW5
     have yb6:=below_trans (below_trans yb5 hb4) hb5
     have zB6:=(zB.below hb4).below hb5
     have zA6:=(zA.below hb4).below hb5
     clear zA zB hq4 hb4 hb5 yb5 CMl
     go_upto_region 19 with (first
      |(go_at_call 84;(first
       |((with_reducible refine (RVl.out _).mono ?_);rintro en w6 ⟨v6,rfl,hq6,hb6⟩)
       |((with_reducible refine (RVk.out _).mono ?_);rintro en w7 ⟨v7,rfl,hq7,hb7⟩)))
      |(go_at_call 40;(with_reducible refine (QAl.out _ _ _ (hq6.below hb7) hq7).mono ?_);rintro en w8 ⟨v8,rfl,hq8,hb8⟩)
      |(go_at_call 87;(with_reducible refine (QS.out _ _ hq8).mono ?_);rintro en w9 ⟨v9,rfl,hq9,hb9⟩;have yb9:=below_trans (below_trans (below_trans hb6 hb7) hb8) hb9)
      |(go_at_call 125;(with_reducible refine (CMd.out _ _ hq9 (zB6.below yb9) (zA6.below yb9)).mono ?_);rintro en wa ⟨rfl,hba⟩))
     obtain ⟨W6,hW6⟩: ∃W,W=wa:=⟨_,rfl⟩
     subst hW6
     have yba:=below_trans (below_trans yb6 yb9) hba
     clear hq6 hb6 hq7 hb7 hq8 hb8 hq9 hb9 hba yb9 yb6 zB6 zA6 QAl QS CMd RVl RVk
     go_cut [18] (fun s18 wx=>s18=.bool u∧wx=W6)
     case first=>as_aux_lemma=>
      have hmode:mode=0∨mode=1∨mode=2∨mode=3∨mode=4:=by omega
      have H0:=HU.out
      clear HU HAN RK HRT yba
      rcases hmode with h|h|h|h|h<;>subst h
      ·by_cases p1:0<near
       ·have H5:=hid (show u=true by rw [H0];unfold rbU;simp [p1])
        clear H0
        go_wp2_with fail
        go_meet
        exact ⟨by rw [H5.out],rfl⟩
       ·by_cases p2:near=0
        ·have p3:(near==0)=true:=beq_iff_eq.2 p2
         obtain ⟨ta,tc,-,e2,e3,e4,e5⟩:=tdiv2 l
         have e6:0≤tc:=by rw [←e2];exact Int.tmod_nonneg _ l0
         by_cases p4:tc=1
         ·have p5:(tc==1)=true:=beq_iff_eq.2 p4
          have H5:=hid (show u=true by rw [H0];unfold rbU;simp [p2];omega)
          clear H0 p2 e3 e4 e5 e6 p4
          go_wp2_with fail
          go_meet
          exact ⟨by rw [H5.out],rfl⟩
         ·have p5:(tc==1)=false:=beq_eq_false_iff_ne.2 p4
          have H5:=hid (show u=false by rw [H0];unfold rbU;simp [p2];omega)
          clear H0 p2 e3 e4 e5 e6 p4
          go_wp2_with fail
          go_meet
          exact ⟨by rw [H5.out],rfl⟩
        ·have p3:(near==0)=false:=beq_eq_false_iff_ne.2 p2
         have H5:=hid (show u=false by rw [H0];unfold rbU;simp [p1,p2])
         clear H0 p2
         go_wp2_with fail
         go_meet
         exact ⟨by rw [H5.out],rfl⟩
      ·cases neg
       ·have H5:=hid (show u=true by rw [H0];unfold rbU;simp)
        clear H0
        go_wp2_with fail
        go_meet
        exact ⟨by rw [H5.out],rfl⟩
       ·have H5:=hid (show u=false by rw [H0];unfold rbU;simp)
        clear H0
        go_wp2_with fail
        go_meet
        exact ⟨by rw [H5.out],rfl⟩
      ·cases neg
       ·have H5:=hid (show u=false by rw [H0];unfold rbU;simp)
        clear H0
        go_wp2_with fail
        go_meet
        exact ⟨by rw [H5.out],rfl⟩
       ·have H5:=hid (show u=true by rw [H0];unfold rbU;simp)
        clear H0
        go_wp2_with fail
        go_meet
        exact ⟨by rw [H5.out],rfl⟩
      ·have H5:=hid (show u=false by rw [H0];unfold rbU;simp)
       clear H0
       go_wp2_with fail
       go_meet
       exact ⟨by rw [H5.out],rfl⟩
      ·by_cases p1:0≤near
       ·have H5:=hid (show u=true by rw [H0];unfold rbU;simp [p1])
        clear H0
        go_wp2_with fail
        go_meet
        exact ⟨by rw [H5.out],rfl⟩
       ·have H5:=hid (show u=false by rw [H0];unfold rbU;simp [p1])
        clear H0
        go_wp2_with fail
        go_meet
        exact ⟨by rw [H5.out],rfl⟩
     case rest=>
      obtain ⟨rfl,rfl⟩:=hcut
      cases u
      ·have RKl:=hid (fun w=>by have h:=RK.out l (by omega) (by omega) w;rwa [ranked_pos l l0] at h)
       have SG:=hid (fun w=>rSigned_any l l0 (by omega) neg w)
       clear HU RK
       go_wp2_with (first
        |(go_at_call 85;(with_reducible refine (RKl.out _).mono ?_);rintro en wb ⟨rfl,rfl⟩)
        |(go_at_call 32;(with_reducible refine (SG.out _).mono ?_);rintro en wb ⟨rfl,rfl⟩))
       go_ret2
       exact HRT.out _ _ _ _ HAN.out rfl yba
      ·have RKl:=hid (fun w=>by have h:=RK.out (l+1) (by omega) (by omega) w;rwa [ranked_pos (l+1) (by omega)] at h)
       have SG:=hid (fun w=>rSigned_any (l+1) (by omega) (by omega) neg w)
       clear HU RK
       go_wp2_with (first
        |(go_at_call 85;(with_reducible refine (RKl.out _).mono ?_);rintro en wb ⟨rfl,rfl⟩)
        |(go_at_call 32;(with_reducible refine (SG.out _).mono ?_);rintro en wb ⟨rfl,rfl⟩))
       go_ret2
       exact HRT.out _ _ _ _ HAN.out rfl yba
end Go.Proofs.YtehhegbkahnhgaaGreatDoor
namespace Go.Ulp
open Go.RowKit
theorem decD_dg (n:Nat):AllDg (decD n):=by
 induction n using Nat.strongRecOn with
 |ind n ih=>
  by_cases h:n<10
  ·rw [decD_small h]
   intro b hb
   rw [List.mem_singleton] at hb;subst hb
   unfold isDg
   rw [decide_eq_true_eq,UInt8.toNat_ofNat'];omega
  ·rw [decD_big h]
   intro b hb
   rcases List.mem_append.1 hb with h1|h1
   ·exact ih (n/10) (by omega) b h1
   ·rw [List.mem_singleton] at h1;subst h1
    unfold isDg
    rw [decide_eq_true_eq,UInt8.toNat_ofNat'];omega
theorem dvl_decD (n:Nat):dvl (decD n)=n:=by
 induction n using Nat.strongRecOn with
 |ind n ih=>
  by_cases h:n<10
  ·rw [decD_small h,dvl_cons]
   show (UInt8.ofNat (48+n)).toNat-48=n
   rw [UInt8.toNat_ofNat'];omega
  ·rw [decD_big h]
   have h1:=ih (n/10) (by omega)
   unfold dvl at h1 ⊢
   rw [dvA_app,h1,dvA_cons]
   show n/10*10+((UInt8.ofNat (48+n%10)).toNat-48)=n
   rw [UInt8.toNat_ofNat'];omega
def vX (V mode:Int):Int:=numX (decide (V<0)) V.natAbs (-1076) mode
theorem vX_rnd (V mode:Int) (m0:0≤mode) (m1:mode≤4): ∃ch,Rnd 2 V mode (vX V mode) ch:=by
 have h:=number_rnd (decide (V<0)) V.natAbs (-1076) mode 2 m0 m1 (fun h=>decide_eq_false (by omega)) (by decide)
 have e0:(-1076+1074+((2:Nat):Int)).toNat=0:=by decide
 have e:sg (decide (V<0)) ((V.natAbs*2^(-1076+1074+((2:Nat):Int)).toNat:Nat):Int)=V:=by
  rw [e0,Nat.pow_zero,Nat.mul_one]
  unfold sg
  by_cases hn:V<0
  ·rw [decide_eq_true hn,if_pos rfl];omega
  ·rw [decide_eq_false hn,if_neg (by decide)];omega
 rw [e] at h
 exact ⟨_,h⟩
theorem vX_of {V mode X:Int} {ch:Bool} (m0:0≤mode) (m1:mode≤4) (h:Rnd 2 V mode X ch):X=vX V mode:=by
 obtain ⟨c,h2⟩:=vX_rnd V mode m0 m1
 exact (h.uniq h2).1
theorem st_tiny {n D z:Nat} (hz:z=1075) (h0:0<n) (h:n*2^z<D):st (n:Int) D=1:=by
 have e:(n:Int)*pw 1075=((n*2^z:Nat):Int):=by rw [←hz,pw_nat,Int.natCast_mul]
 have hp:0<n*2^z:=Nat.mul_pos h0 (Nat.two_pow_pos _)
 unfold st
 rw [e]
 generalize n*2^z=y at *
 have a:((y:Int))/(D:Int)=0:=Int.ediv_eq_zero_of_lt (by omega) (by omega)
 have b:((y:Int))%(D:Int)=y:=Int.emod_eq_of_lt (by omega) (by omega)
 rw [a,b,if_neg (by omega)]
 rfl
theorem p1075 (N n z:Nat) (h:n<10^N) (q:Nat) (hq:z+N≤q):n*2^z<10^q:=by
 have a:n*2^z<10^N*2^z:=(Nat.mul_lt_mul_right (Nat.two_pow_pos z)).2 h
 have b:10^N*2^z≤10^N*10^z:=Nat.mul_le_mul_left _ (Nat.pow_le_pow_left (by omega) z)
 have c:10^N*10^z≤10^q:=by rw [←Nat.pow_add];exact Nat.pow_le_pow_right (by omega) (by omega)
 omega
theorem st_clamp (n N t:Nat) (h0:0<n) (hN:n<10^N):st ((rdNum n N (-(t:Int)):Nat):Int) (rdDen N (-(t:Int)))=st (n:Int) (10^t):=by
 obtain ⟨K,hK⟩: ∃K,K=rkc N (-(t:Int)):=⟨_,rfl⟩
 have hA:rdNum n N (-(t:Int))=n*10^K.toNat:=by rw [hK];rfl
 have hB:rdDen N (-(t:Int))=10^(-K).toNat:=by rw [hK];rfl
 rw [hA,hB]
 unfold rkc at hK
 have k0:K.toNat=0:=by omega
 rw [k0,Nat.pow_zero,Nat.mul_one]
 obtain ⟨q,hq⟩: ∃q,q=(-K).toNat:=⟨_,rfl⟩
 rw [←hq]
 by_cases h:q=t
 ·rw [h]
 ·obtain ⟨z,hz⟩: ∃z,z=1075:=⟨_,rfl⟩
  rw [st_tiny hz h0 (p1075 N n z hN q (by omega)),st_tiny hz h0 (p1075 N n z hN t (by omega))]
theorem read_vX {neg:Bool} {n t:Nat} {mode:Int} {w w':World} {e:Ending} (m0:0≤mode) (m1:mode≤4) (h0:0<n) (h:RetRB neg (rdNum (dvl (decD n)) (decD n).length (-(t:Int))) (rdDen (decD n).length (-(t:Int))) mode w e w'):
 ∃b,e=.returned (.tuple #[.int .u64 (vX (st (sg neg (n:Int)) (10^t)) mode),.bool b])∧Below w.heap.size w w':=by
 rw [dvl_decD] at h
 obtain ⟨l,l0,l1,l2,l3,l4,l5⟩:=h
 obtain ⟨k,rfl⟩:=Int.eq_ofNat_of_zero_le l0
 have hA:0<rdNum n (decD n).length (-(t:Int)):=by unfold rdNum;exact Nat.mul_pos h0 (Nat.pow_pos (by omega))
 have hB:0<rdDen (decD n).length (-(t:Int)):=by unfold rdDen;exact Nat.pow_pos (by omega)
 obtain ⟨ch,r⟩:=read_st _ _ hA hB neg mode m0 m1 k l1 l2 l3
 rw [st_clamp n _ t h0 (decD_lt n)] at r
 have es:sg neg (st (n:Int) (10^t))=st (sg neg (n:Int)) (10^t):=by
  have hs:=st_neg (n:Int) (10^t) (Nat.pow_pos (by omega))
  unfold sg
  cases neg
  ·rw [if_neg (by decide),if_neg (by decide)]
  ·rw [if_pos rfl,if_pos rfl,hs]
 rw [es] at r
 rw [vX_of m0 m1 r] at l4
 exact ⟨_,l4,l5⟩
def dgT (n:Nat):List UInt8:=if n=0 then [] else decD n
def Fact.rb (X:Int):Fact:=⟨fun v _=> ∃b,v=.tuple #[.int .u64 X,.bool b],fun _ _ _ h _=>h⟩
def Fact.bo:Fact:=⟨fun v _=> ∃b,v=.bool b,fun _ _ _ h _=>h⟩
theorem ret_bs9 {L M:List UInt8} (h:L=M):Ending.returned (.string (bsOf L))=.returned (.string (bsOf M)):=by rw [h]
end Go.Ulp
namespace Go.Proofs.YtehhegbkahnhgaaGreatDoor
open Go.RowKit Go.Ulp
set_option maxHeartbeats 4000000
set_option maxRecDepth 100000
theorem digitsOf_any (n:Nat) (v:Value) (w:World) (hv:ZD 3 w (n:Int) v) (hl:(zl (n:Int)).length≤2000000000):
 Calls Tryz.prog 117 #[v] w fun e w'=>e=.returned (.string (bsOf (dgT n)))∧Below w.heap.size w w':=by
 have ZT:=hid (fun v w h=>zTextD v (n:Int) w h hl)
 rw [show zTx (n:Int)=decD n by unfold zTx;rw [if_neg (by omega),Int.natAbs_natCast]] at ZT
 have HN:=hid (show n=0↔(zl (n:Int)).length=0 from by
  have h:=decs_nil n
  constructor
  ·intro h1;rw [h1];rfl
  ·intro h1;exact h.1 (List.length_eq_zero_iff.1 h1))
 obtain ⟨a,c,rfl,h0⟩:=hv
 have yb:=below_alloc w (.cells #[.bool (zneg (n:Int)),.slice a (zl (n:Int)).length c] 47)
 have zA:=zv_made (tz:=47) h0 w.heap.size rfl
 have HZ:=hid (show ZD 3 (w.alloc (.cells #[.bool (zneg (n:Int)),.slice a (zl (n:Int)).length c] 47)) (n:Int) (.agg #[.bool (zneg (n:Int)),.slice a (zl (n:Int)).length c]) from ⟨a,c,rfl,h0.below yb⟩)
 have zL:ZL 47 (w.alloc (.cells #[.bool (zneg (n:Int)),.slice a (zl (n:Int)).length c] 47)) w.heap.size (zneg (n:Int)) (.slice a (zl (n:Int)).length c):=ZL.made rfl
 obtain ⟨j0,j1,-⟩:=id zL
 clear h0 zA hl
 obtain ⟨N,hN⟩: ∃N,N=(zl (n:Int)).length:=⟨_,rfl⟩
 rw [←hN] at HN j0 j1 HZ zL yb ⊢
 by_cases hz:n=0
 ·have hb:((N:Int)==0)=true:=beq_iff_eq.2 (by have:=HN.out.1 hz;omega)
  have HD:=hid (show dgT n= [] by unfold dgT;rw [if_pos hz])
  clear hz hN HN
  go_enter Tryz.func117,Tryz.ntmps117
  go_wp2_with fail
  go_ret
  exact ⟨ret_bs9 HD.out.symm,yb⟩
 ·have hb:((N:Int)==0)=false:=beq_eq_false_iff_ne.2 (fun h=>hz (HN.out.2 (by omega)))
  have HD:=hid (show dgT n=decD n by unfold dgT;rw [if_neg hz])
  clear hz hN HN
  go_enter Tryz.func117,Tryz.ntmps117
  go_wp2_with (go_at_call 131;(with_reducible refine (ZT.out _ _ HZ.out).mono ?_);rintro en w2 ⟨rfl,hb2⟩)
  go_ret
  exact ⟨ret_bs9 HD.out.symm,below_trans yb hb2⟩
end Go.Proofs.YtehhegbkahnhgaaGreatDoor
namespace Go.Ulp
open Go.RowKit
def GoodXo (o neg:Bool) (y:Rat) (p:Nat) (D E:Dy):Prop:=p≤34359738368∧ ∃b:PP,ExB neg y (2^p) b∧(17179869184≤p→ ∃q:Int,st (b.1:Int) (2^p)=2*q+1∧st (b.2:Int) (2^p)=2*q+1)∧b.1≤2^(p+201326592)∧b.2≤2^(p+201326592)∧D=nrm ((b.1:Int)-oD o (2^p)) (-(p:Int))∧E=nrm ((b.2:Int)-oD o (2^p)) (-(p:Int))
theorem prog_odd (m B:Nat) (e:Int) (p n pl q:Nat) (h0:0<m) (hm:m<2^1280) (hB:m<2^B) (he: -10000≤e) (hq:q=1024) (h2:dyQ m e≤(q:Rat)) (hs:sN B e≤26) (hpl:pl≤1300) (hn:n≤p) (hg:(grT (tS m B e p) p n).2≤1) (hp:2^34≤p) (hp60:p≤2^60) (neg:Bool):
 (ebP (growP m B e p n) p neg).1*2^pl/2^p=(ebP (growP m B e p n) p neg).2*2^pl/2^p∧(ebP (growP m B e p n) p neg).1*2^pl%2^p≠0∧(ebP (growP m B e p n) p neg).2*2^pl%2^p≠0:=by
 have hGG:GG=8589934592:=rfl
 have h38:2^34=17179869184:=by decide
 have nf:=nofr m e pl h0 hm he (by
  have:((1024:Nat):Rat)≤((4096:Nat):Rat):=natle (by decide)
  rw [hq] at h2
  grind) hpl
 have hin:=growP_in m B e p n hB hg
 have hle:=growP_le m B e p n
 have hlow:=growP_low m B e p n
 obtain ⟨w1,w2⟩:=growP_wd m B e p n q hB h2 hs hn hp60 (by omega)
 obtain ⟨W,hW⟩: ∃W,W=70+(2*q+3)*26:=⟨_,rfl⟩
 rw [←hW] at w1
 have hC:(growP m B e p n).2≤2^p*2^(2*q+1):=by
  rw [←Nat.pow_add]
  have a:2^W≤2^(p+2*q):=Nat.pow_le_pow_right (by omega) (by omega)
  have b:2^(p+(2*q+1))=2^(p+2*q)*2:=by rw [←Nat.pow_succ];rfl
  omega
 generalize growP m B e p n=x at *
 generalize GG=G at *
 cases neg
 ·rw [show ebP x p false=x from rfl]
  exact sep_pos_odd (Nat.two_pow_pos p) (dyQ_nonneg m e) nf hin.sc hle W w1 hlow (Nat.pow_le_pow_right (by omega) (by omega)) (Nat.pow_le_pow_right (by omega) (by omega))
 ·rw [show ebP x p true=(2^p*2^p/x.2,2^p*2^p/x.1+1) from rfl]
  exact sep_neg_odd (Nat.two_pow_pos p) (dyQ_nonneg m e) nf hin.sc hle W (2*q+1) w1 hlow hC (Nat.pow_le_pow_right (by omega) (by omega)) (Nat.pow_le_pow_right (by omega) (by omega))
theorem exB_eb {m B:Nat} {e:Int} {p n:Nat} (neg:Bool) (hB:m<2^B) (hg:(grT (tS m B e p) p n).2≤1):ExB neg (dyQ m e) (2^p) (ebP (growP m B e p n) p neg):=by
 have hin:=(growP_in m B e p n hB hg).sc
 have hlow:=growP_low m B e p n
 have hle:=growP_le m B e p n
 have hpp:=Nat.two_pow_pos p
 generalize growP m B e p n=x at *
 cases neg
 ·rw [show ebP x p false=x from rfl];exact exB_pos hin
 ·rw [show ebP x p true=(2^p*2^p/x.2,2^p*2^p/x.1+1) from rfl]
  exact exB_neg (dyQ_nonneg m e) hpp hin (by omega) (by omega)
theorem goodE_o (m:Nat) (e:Int) (neg:Bool) (p:Nat) (D E:Dy) (q:Nat) (h0:0<m) (hm:m<2^1280) (he: -10000≤e) (hq:q=1024) (h2:dyQ m e≤(q:Rat)) (hs:sN (bl m) e≤26) (h:GoodE m e neg p D E):GoodXo false neg (dyQ m e) p D E:=by
 obtain ⟨hp1,hp2,n,hn,hg,rfl,rfl⟩:=h
 have gl:=growP_len m (bl m) e p n (lt_bl m) hp1 hn hs
 have gw:=growP_low m (bl m) e p n
 have ge:=growP_le m (bl m) e p n
 obtain ⟨pl,hpl⟩: ∃pl,pl=1075:=⟨_,rfl⟩
 obtain ⟨a,b⟩:=ebP_len _ p neg gl.1 gl.2 gw ge
 refine ⟨hp2,_,exB_eb neg (lt_bl m) hg,fun h34=>?_,a,b,?_,?_⟩
 ·exact st_nat_odd hpl (prog_odd m (bl m) e p n pl q h0 hm (lt_bl m) he hq h2 hs (by omega) hn hg (by omega) (by omega) neg)
 ·show _=nrm (_-0) _;rw [Int.sub_zero]
 ·show _=nrm (_-0) _;rw [Int.sub_zero]
theorem goodXo_end (o neg:Bool) (y:Rat) (mode:Int) (m0:0≤mode) (m1:mode≤4) (p:Nat) (D E:Dy) (h:GoodXo o neg y p D E) (hp:17179869184≤p):rX D mode=rX E mode∧rC D mode=true∧rC E mode=true:=by
 obtain ⟨p1,b,hb,hod,-,-,rfl,rfl⟩:=h
 obtain ⟨q,q1,q2⟩:=st_odd_off o (Nat.two_pow_pos p) (hod hp)
 have r1:=prog_st ((b.1:Int)-oD o (2^p)) p mode m0 m1
 have r2:=prog_st ((b.2:Int)-oD o (2^p)) p mode m0 m1
 rw [q1] at r1
 rw [q2] at r2
 exact ⟨(r1.uniq r2).1,rnd_odd r1 (by omega),rnd_odd r2 (by omega)⟩
theorem rC_zero9 (e mode:Int):rC (nrm 0 e) mode=false:=by
 have:nrm 0 e=(0,0):=rfl
 rw [this]
 unfold rC numC numR
 rfl
theorem st_ne9 {x:Int} {p:Nat} {mode:Int} (h:rC (nrm x (-(p:Int))) mode=true):st x (2^p)≠0:=by
 intro h0
 have hs:=st_sign x (2^p) (Nat.two_pow_pos p)
 rw [h0] at hs
 have:x=0:=by
  have h1:cmpI x 0=0:=by rw [←hs];decide
  exact (cmpI_eq_zero _ _).1 h1
 rw [this,rC_zero9] at h
 cases h
theorem goodXo_r (o neg:Bool) (y:Rat) (mode:Int) (m0:0≤mode) (m1:mode≤4) (p:Nat) (D E:Dy) (h:GoodXo o neg y p D E) (h1:rX D mode=rX E mode) (h2:rC D mode=true) (h3:rC E mode=true):ExR neg y o mode (rX D mode):=by
 obtain ⟨p1,b,hb,-,-,-,rfl,rfl⟩:=h
 have r1:=prog_st ((b.1:Int)-oD o (2^p)) p mode m0 m1
 have r2:=prog_st ((b.2:Int)-oD o (2^p)) p mode m0 m1
 rw [←h1] at r2
 exact ⟨2^p,b,_,_,Nat.two_pow_pos p,hb,r1,r2,st_ne9 h2,st_ne9 h3⟩
def GoodXr (o neg:Bool) (y:Rat) (t:Nat) (x:Int×Int):Prop:= ∃b:PP,ExB neg y (10^t) b∧(2900000000≤t→ ∃q:Int,st (b.1:Int) (10^t)=2*q+1∧st (b.2:Int) (10^t)=2*q+1)∧b.1≤10^(t+1650)∧b.2≤10^(t+1650)∧x=((b.1:Int)-oD o (10^t),(b.2:Int)-oD o (10^t))
theorem ref_odd (m:Nat) (e:Int) (N b t n1 n2 pl q:Nat) (h0:0<m) (hm:m<2^1280) (he: -10000≤e) (hq:q=800) (h2:dyQ m e≤(q:Rat)) (hpl:pl≤1300) (hb:0<b) (hy:(b:Rat)*dyQ m e=(N:Rat))
 (h1:1≤n1) (k1:(beT (10^t,10^t) (10^t) n1).2≤2) (h3:1≤n2) (k2:(beT (frB (N%b) b (10^t)) (10^t) n2).2≤2) (l1:n1≤2^60) (l2:n2≤2^60) (ht:2900000000≤t) (neg:Bool):
 (erP (eB N b (10^t) n1 n2) (10^t) neg).1*2^pl/10^t=(erP (eB N b (10^t) n1 n2) (10^t) neg).2*2^pl/10^t∧(erP (eB N b (10^t) n1 n2) (10^t) neg).1*2^pl%10^t≠0∧(erP (eB N b (10^t) n1 n2) (10^t) neg).2*2^pl%10^t≠0:=by
 have hGG:GG=8589934592:=rfl
 have nf:=nofr m e pl h0 hm he (by
  have:((800:Nat):Rat)≤((4096:Nat):Rat):=natle (by decide)
  rw [hq] at h2
  grind) hpl
 have hten: ∀k,k≤3*t→2^k≤10^t:=fun k hk=>Nat.le_trans (Nat.pow_le_pow_right (by omega) hk) (by rw [Nat.pow_mul];exact Nat.pow_le_pow_left (by omega) t)
 have hD:12≤10^t:=Nat.le_trans (show 12≤2^4 by decide) (hten 4 (by omega))
 have hin:=eB_in N b (10^t) n1 n2 hb (by omega) _ hy h1 k1 h3 k2
 have hlow:=eB_low N b (10^t) n1 n2 hb hD
 obtain ⟨w1,w2,w3⟩:=eB_wd N b (10^t) n1 n2 q hb hD _ hy h1 k1 h3 k2 l1 l2 (by omega) (by omega) h2 (hten _ (by omega))
 obtain ⟨W,hW⟩: ∃W,W=2*q+4+(70+(4*q+6)*10):=⟨_,rfl⟩
 rw [←hW] at w1
 have hWD:2^W≤10^t:=hten W (by omega)
 have hC:(eB N b (10^t) n1 n2).2≤10^t*2^(2*q+1):=by
  have a1:1≤2^(2*q):=Nat.two_pow_pos _
  have a2:=Nat.mul_le_mul_left (10^t) a1
  rw [Nat.pow_succ,←Nat.mul_assoc];omega
 have g1:=hten (W+1+GG) (by omega)
 have g2:=hten (W+4*(2*q+1)+8+GG) (by omega)
 have g3:=hten pl (by omega)
 generalize eB N b (10^t) n1 n2=x at *
 generalize GG=G at *
 cases neg
 ·rw [show erP x (10^t) false=x from rfl]
  exact sep_pos_odd (by omega) (dyQ_nonneg m e) nf hin w2 W w1 hlow g1 g3
 ·rw [show erP x (10^t) true=(10^t*10^t/x.2,10^t*10^t/x.1+1) from rfl]
  exact sep_neg_odd (by omega) (dyQ_nonneg m e) nf hin w2 W (2*q+1) w1 hlow hC g2 g3
theorem goodR_o (m:Nat) (e:Int) (neg:Bool) (t:Nat) (b:PP) (q:Nat) (h0:0<m) (hm:m<2^1280) (he: -10000≤e) (hq:q=800) (h2:dyQ m e≤(q:Rat)) (h:GoodR m e neg t b) (o:Bool):GoodXr o neg (dyQ m e) t ((b.1:Int)-oD o (10^t),(b.2:Int)-oD o (10^t)):=by
 obtain ⟨sz1,sz2⟩:=goodR_sz h
 obtain ⟨N,d,n1,n2,hy,hE,rfl⟩:=h
 have hD:=Nat.pow_pos (n:=t) (show 0<10 by omega)
 have hin:=eB_in N d (10^t) n1 n2 hE.hb hD _ hy hE.b1.n1 hE.b1.e1 hE.b2.n1 hE.b2.e1
 have low:=eB_low N d (10^t) n1 n2 hE.hb (ten12 hE.t0)
 have m1:(eB N d (10^t) n1 n2).1≤(eB N d (10^t) n1 n2).2:=by
  obtain ⟨⟨a1,a2⟩,⟨f1,f2⟩⟩:=hE.tops _ hy
  exact bMul_mono (bPow_top hD a1 a2 (N/d) (N/d) (Nat.le_refl _)).1 f1
 have l60:12000000002≤2^60:=by decide
 obtain ⟨pl,hpl⟩: ∃pl,pl=1075:=⟨_,rfl⟩
 refine ⟨_,?_,fun ht=>st_nat_odd hpl (ref_odd m e N d t n1 n2 pl q h0 hm he hq h2 (by omega) hE.hb hy hE.b1.n1 hE.b1.e1 hE.b2.n1 hE.b2.e1 (Nat.le_trans hE.b1.n2 l60) (Nat.le_trans hE.b2.n2 l60) ht neg),sz1,sz2,rfl⟩
 cases neg
 ·rw [show erP (eB N d (10^t) n1 n2) (10^t) false=eB N d (10^t) n1 n2 from rfl];exact exB_pos hin
 ·rw [show erP (eB N d (10^t) n1 n2) (10^t) true=(10^t*10^t/(eB N d (10^t) n1 n2).2,10^t*10^t/(eB N d (10^t) n1 n2).1+1) from rfl]
  exact exB_neg (dyQ_nonneg m e) hD hin (by omega) (by omega)
theorem goodXr_sz (o neg:Bool) (y:Rat) (t:Nat) (x:Int×Int) (h:GoodXr o neg y t x):x.1.natAbs≤10^(t+1650)∧x.2.natAbs≤10^(t+1650):=by
 obtain ⟨b,-,-,s1,s2,rfl⟩:=h
 have hD:10^t≤10^(t+1650):=Nat.pow_le_pow_right (by omega) (by omega)
 unfold oD
 generalize 10^(t+1650)=Z at *
 generalize 10^t=D at *
 cases o
 ·simp only [Bool.false_eq_true,if_false];omega
 ·simp only [if_true];omega
theorem goodXr_end (o neg:Bool) (y:Rat) (t:Nat) (x:Int×Int) (h:GoodXr o neg y t x) (ht:2900000000≤t):st x.1 (10^t)=st x.2 (10^t)∧x.1≠0∧x.2≠0:=by
 obtain ⟨b,-,hod,-,-,rfl⟩:=h
 have hP:0<10^t:=Nat.pow_pos (by omega)
 obtain ⟨q,q1,q2⟩:=st_odd_off o hP (hod ht)
 have nz: ∀y:Int,st y (10^t)=2*q+1→y≠0:=by
  intro y hy h9
  subst h9
  have hs:=st_sign 0 (10^t) hP
  rw [hy,show cmpI 0 0=0 by decide] at hs
  have:=(cmpI_eq_zero _ _).1 hs
  omega
 exact ⟨by rw [q1,q2],nz _ q1,nz _ q2⟩
theorem st_nz9 {x:Int} {D:Nat} (hD:0<D) (h:x≠0):st x D≠0:=fun h9=>h (by
 have hs:=st_sign x D hD
 rw [h9,show cmpI 0 0=0 by decide] at hs
 exact (cmpI_eq_zero _ _).1 hs.symm)
theorem goodXr_r (o neg:Bool) (y:Rat) (mode:Int) (m0:0≤mode) (m1:mode≤4) (t:Nat) (x:Int×Int) (h:GoodXr o neg y t x) (h1:x.1≠0) (h2:x.2≠0) (h3:vX (st x.1 (10^t)) mode=vX (st x.2 (10^t)) mode):ExR neg y o mode (vX (st x.1 (10^t)) mode):=by
 obtain ⟨b,hb,-,-,-,rfl⟩:=h
 have hP:0<10^t:=Nat.pow_pos (by omega)
 obtain ⟨c1,r1⟩:=vX_rnd (st ((b.1:Int)-oD o (10^t)) (10^t)) mode m0 m1
 obtain ⟨c2,r2⟩:=vX_rnd (st ((b.2:Int)-oD o (10^t)) (10^t)) mode m0 m1
 rw [←h3] at r2
 exact ⟨10^t,b,c1,c2,hP,hb,r1,r2,st_nz9 hP h1,st_nz9 hP h2⟩
end Go.Ulp
