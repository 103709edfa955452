/- ExpoLogs: what the proof leans on, part 27 (Rb1 Sf4 Li0 Sf5 Li1 Li2). -/
import Derived.Test.YtehhegbkahnhgaaGreatDoorKExpoLogs15
import Derived.Test.YtehhegbkahnhgaaGreatDoorKExpoLogs18
import Derived.Test.YtehhegbkahnhgaaGreatDoorKExpoLogs23
import Derived.Test.YtehhegbkahnhgaaGreatDoorKExpoLogs25
import Derived.Test.YtehhegbkahnhgaaGreatDoorKExpoLogs26
set_option linter.unusedVariables false
set_option linter.unusedSimpArgs false
namespace Go.Ulp
open Go.RowKit
def RetRB (neg:Bool) (A B:Nat) (mode:Int) (w:World) (e:Ending) (w':World):Prop:=
 ∃l:Int,0≤l∧l<9218868437227405312∧rdC 1074 A B l≤0∧(l+1=9218868437227405312∨0<rdC 1074 A B (l+1))∧
  e=.returned (.tuple #[.int .u64 ((rdA 1074 A B (if neg=true then swM mode else mode) l).1+sgb neg),.bool (rdA 1074 A B (if neg=true then swM mode else mode) l).2])∧Below w.heap.size w w'
theorem rkD_mid (l:Int):shD (addD (rkD l) (rkD (l+1))) (-1)=nrm (rvs l+rvs (l+1)) (-((1075:Nat):Int)):=by
 unfold rkD
 rw [←nrm_add (rvs l) (-1074) (rvs (l+1)) (-1074) (-1074) (.inl (Int.le_refl _)) (.inl (Int.le_refl _)),sc_self,sc_self,←nrm_shift]
 rfl
theorem rdM_midK (K A B:Nat) (l:Int):cmpI ((rvs l+rvs (l+1))*(B:Int)) ((A:Int)*pw (K+1))=rdM K A B l:=by
 unfold rdM
 rw [pw_add,show pw 1=2 by decide]
 generalize pw K=P
 rw [←Int.mul_assoc,Int.mul_comm _ 2]
theorem rdM_mid (A B:Nat) (l:Int):cmpI ((rvs l+rvs (l+1))*(B:Int)) ((A:Int)*pw 1075)=rdM 1074 A B l:=rdM_midK 1074 A B l
theorem rdC_zero (K A B:Nat):rdC K A B 0≤0:=by
 unfold rdC
 have h0:rvs 0=0:=by rw [show (0:Int)=((0:Nat):Int) from rfl,rvs_nat9,rvi_zero]
 rw [h0,Int.zero_mul]
 have h1:0≤(A:Int)*pw K:=Int.mul_nonneg (by omega) (Int.le_of_lt (pw_pos K))
 generalize (A:Int)*pw K=q at *
 unfold cmpI
 split
 ·omega
 ·split<;>omega
def rbU (neg:Bool) (mode near l:Int):Bool:=(decide (mode=1)&&!neg)||(decide (mode=2)&&neg)||(decide (mode=0)&&(decide (0<near)||(decide (near=0)&&decide (l%2=1))))||(decide (mode=4)&&decide (0≤near))
theorem rbU_eq (neg:Bool) (A B:Nat) (mode l:Int) (m0:0≤mode) (m1:mode≤4):rbU neg mode (-rdM 1074 A B l) l=rdU 1074 A B (if neg=true then swM mode else mode) l:=by
 unfold rbU rdU swM
 generalize rdM 1074 A B l=M
 have:mode=0∨mode=1∨mode=2∨mode=3∨mode=4:=by omega
 rw [Bool.eq_iff_iff]
 rcases this with h|h|h|h|h<;>subst h<;>cases neg<;>simp<;>omega
theorem rdA_up (K A B:Nat) (mode l:Int) (h:rdC K A B l≠0) (u:Bool) (hu:rdU K A B mode l=u):rdA K A B mode l=(if u=true then l+1 else l,true):=by
 unfold rdA;rw [if_neg h,hu];cases u<;>rfl
end Go.Ulp
namespace Go.Proofs.YtehhegbkahnhgaaGreatDoor
open Go.RowKit Go.Ulp
set_option maxHeartbeats 2000000
set_option maxRecDepth 100000
theorem zl_ten_le4 {x E:Nat} (h:x≤10^E):(zl (x:Int)).length≤E/4+1:=
 Nat.le_trans (zl_len_le (x:=((x:Nat):Int)) (y:=tenZ E) (by unfold tenZ;rw [Int.natAbs_natCast,Int.natAbs_natCast];exact h)) (zl_len_ten4 E)
theorem readBits_any (neg:Bool) (L:List UInt8) (k mode:Int) (w:World) (hL:AllDg L) (h1:1≤L.length) (hl:L.length≤3100000000) (hk: -4000000000≤k∧k≤4000000000) (m0:0≤mode) (m1:mode≤4):
 Calls Tryz.prog 96 #[.bool neg,.string (bsOf L),.int .i64 k,.int .i64 mode] w (RetRB neg (rdNum (dvl L) L.length k) (rdDen L.length k) mode w):=by
 have hne:((bsOf L).toList== [])=false:=by
  rw [bs_toList];exact beq_eq_false_iff_ne.2 (fun h=>by rw [h] at h1;exact absurd h1 (by decide))
 have hsz:=bs_size L
 obtain ⟨K,hK⟩: ∃K,K=rkc L.length k:=⟨_,rfl⟩
 have hK1: -3100002500≤K∧K≤2500:=by rw [hK];unfold rkc;omega
 have wk:IntKind.i64.wrap (-2500-(L.length:Int))= -2500-(L.length:Int):=IntWalk.i64_in _ (by omega)
 have HKK:=hid (show min (max k (-2500-(L.length:Int))) 2500=K by rw [hK];rfl)
 have ZG:=hid (fun w=>zDigits_any L w hL hl)
 obtain ⟨V,hV⟩: ∃V,V=dvl L:=⟨_,rfl⟩
 obtain ⟨E,hE⟩: ∃E:Nat,E=3100000000:=⟨_,rfl⟩
 have hVb:V≤10^E:=by
  have h9:=dvl_lt L hL
  have h8:10^L.length≤10^E:=Nat.pow_le_pow_right (by omega) (by omega)
  omega
 have lV:=zl_ten_le4 hVb
 have hmf: ∀fn first cap w,(Instr.makeFunc fn first cap).run Tryz.prog w=.ok (.func fn first cap) w:=fun _ _ _ _=>rfl
 obtain ⟨A,hA⟩: ∃A,A=rdNum V L.length k:=⟨_,rfl⟩
 obtain ⟨B,hB⟩: ∃B,B=rdDen L.length k:=⟨_,rfl⟩
 rw [←hV,←hA,←hB]
 rw [←hV] at ZG
 have hA2:(A:Int)=(V:Int)*tenZ K.toNat:=by rw [hA,hK];unfold rdNum tenZ;rw [Int.natCast_mul]
 have hB2:(B:Int)=tenZ (-K).toNat:=by rw [hB,hK];rfl
 have lA:(zl (A:Int)).length≤900000000:=by
  obtain ⟨F,hF⟩: ∃F:Nat,F=2500:=⟨_,rfl⟩
  have:A≤10^(E+F):=by
   rw [hA];unfold rdNum
   rw [Nat.pow_add]
   exact Nat.mul_le_mul hVb (Nat.pow_le_pow_right (by omega) (by omega))
  exact Nat.le_trans (zl_ten_le4 this) (by omega)
 have lB:(zl (B:Int)).length≤900000000:=by
  obtain ⟨F,hF⟩: ∃F:Nat,F=3100002500:=⟨_,rfl⟩
  have:B≤10^F:=by
   rw [hB];unfold rdDen
   exact Nat.pow_le_pow_right (by omega) (by omega)
  exact Nat.le_trans (zl_ten_le4 this) (by omega)
 have HA2:=hid hA2
 have HB2:=hid hB2
 clear hA hB hA2 hB2 hV hVb hK
 go_enter Tryz.func96,Tryz.ntmps96
 go_upto_region 4 with fail
 rw [HKK.out]
 go_upto_region 5 with (go_at_call 124;(with_reducible refine (ZG.out _).mono ?_);rintro en w1 ⟨v1,rfl,⟨a1,c1,rfl,n1⟩,hb1⟩)
 have zz:=zv_made (tz:=47) n1 w1.heap.size rfl
 refine wp_worldZ (fun WW=>Below w.heap.size w WW∧ZV 47 3 WW w1.heap.size (V:Int)) ⟨below_trans hb1 (below_alloc _ _),zz⟩ ?_
 intro W1 ⟨y1,z1⟩
 obtain ⟨g10,hg10⟩: ∃g,g=w1.heap.size:=⟨_,rfl⟩
 rw [←hg10] at z1 ⊢
 clear hg10 zz n1 hb1 HKK ZG wk hne
 refine wp_region_growF 4 [31,32,11,12] [Fact.z 3 ((V:Int)),Fact.z 3 (1),Fact.z0 W1.heap.size 47,Fact.z0 W1.heap.size 47] [2,3] (by kernel_rfl) (by kernel_rfl) ⟨?o0,?o1,?o2,?o3,trivial⟩ ?after
 case o0=>(refine oQF rfl ?_;intro ρ w1 R hcon hfn hρ hb hp hR;have e10:ρ (.tmp 10)=.pointer (some ⟨g10,0,none⟩):=hρ.tmp 10 rfl;obtain ⟨ya9,yc9,yj9,yn9⟩:=ZV.below z1 hb;obtain ⟨j90,j91,-⟩:=yj9;replace hR:=fun v w2 h1 h2=>hR v w2 h1 h2 (fun h=>absurd h (by decide));clear hρ hp;unfold OpRun;go_simp;exact hR _ _ (Below.refl _ _) ⟨ya9,yc9,rfl,yn9⟩)
 case o1=>(refine oQF rfl ?_;intro ρ w1 R hcon hfn hρ hb hp hR;replace hR:=fun v w2 h1 h2=>hR v w2 h1 h2 (fun h=>absurd h (by decide));clear hρ hp;unfold OpRun;go_simp;(refine (zND _ (by omega) (by omega) _).mono ?_;rintro e wn ⟨v9,rfl,hz9,hbn⟩;exact ⟨_,rfl,hR _ _ hbn hz9⟩))
 case o2=>(refine oQF rfl ?_;intro ρ w1 R hcon hfn hρ hb hp hR;clear hρ hp;unfold OpRun;go_simp;exact hR _ _ (below_alloc _ _) ⟨_,rfl,hb.size,ZL.made rfl⟩ (fun _=>⟨_,rfl,Nat.le_refl _,by simp⟩))
 case o3=>(refine oQF rfl ?_;intro ρ w1 R hcon hfn hρ hb hp hR;clear hρ hp;unfold OpRun;go_simp;exact hR _ _ (below_alloc _ _) ⟨_,rfl,hb.size,ZL.made rfl⟩ (fun _=>⟨_,rfl,Nat.le_refl _,by simp⟩))
 case after=>
  intro u wn hb hf hd
  have f31:=hf 0 31 (by omega) rfl
  have f32:=hf 1 32 (by omega) rfl
  have f11:=hf 2 11 (by omega) rfl
  have f12:=hf 3 12 (by omega) rfl
  have d11_12:u 11≠u 12:=hd 2 3 11 12 (by omega) (by omega) (by omega) rfl rfl rfl rfl
  clear hf hd
  simp only [putAll,Act.put,List.setIfInBounds_toArray,List.set_cons_zero,List.set_cons_succ,List.drop_succ_cons,List.drop_zero,List.drop_nil]
  obtain ⟨xa1,xc1,xe1,xn1⟩:=f31
  obtain ⟨xa2,xc2,xe2,xn2⟩:=f32
  obtain ⟨gv11,eg1,hg1,zz1⟩:=f11
  obtain ⟨gv12,eg2,hg2,zz2⟩:=f12
  have gne:gv11≠gv12:=by intro h;apply d11_12;rw [eg1,eg2,h]
  rw [xe1,xe2,eg1,eg2]
  clear xe1 xe2 eg1 eg2 d11_12
  have zst:=zv_store2 (by decide) hb hg1 hg2 gne zz1 zz2 xn1 xn2
  obtain ⟨k0,k1,kf0,kf1,-⟩:=id zz1
  obtain ⟨l0,l1,lf0,lf1,-⟩:=id zz2
  go_upto_region 6 with fail
  clear k0 k1 kf0 kf1 l0 l1 lf0 lf1 zz1 zz2 xn1 xn2 hb
  refine wp_worldZ (fun WW=>Below _ _ WW∧ZV _ _ WW _ _∧ZV _ _ WW _ _) zst ?_
  clear zst
  intro W2 ⟨y12,z11,z12⟩
  have y2:=below_trans y1 y12
  have s1:=y1.size
  have b11:w.heap.size≤gv11:=by omega
  have b12:w.heap.size≤gv12:=by omega
  clear z1 y1 y12 hg1 hg2 s1
  go_upto_if 34 with fail
  go_cut [] (fun wx=>Below w.heap.size w wx∧ZV 47 3 wx gv11 (A:Int)∧ZV 47 3 wx gv12 (B:Int))
  case first=>as_aux_lemma=>
   by_cases hk0:0≤K
   ·obtain ⟨p,rfl⟩:=Int.eq_ofNat_of_zero_le hk0
    have eB:(1:Int)=(B:Int):=by rw [HB2.out,show (-(p:Int)).toNat=0 by omega];rfl
    have eA:(V:Int)*tenZ p=(A:Int):=by rw [HA2.out,Int.toNat_natCast]
    have lV2:(zl (V:Int)).length≤900000000:=by omega
    have lp:=Nat.le_trans (zl_len_ten p) (show p+1≤100000000 by omega)
    go_upto_region 7 with fail
    refine wp_region_grow 4 [35,36,37,38] [Fact.z 3 ((V:Int)),Fact.is (.int .i64 (p:Int)),Fact.z 3 (tenZ p),Fact.z 3 (((V:Int))*(tenZ p))] (by kernel_rfl) (by kernel_rfl) ⟨?o0,?o1,?o2,?o3,trivial⟩ ?after
    case o0=>(refine oQ rfl ?_;intro ρ w1 R hcon hfn hρ hb hp hR;have e11:ρ (.tmp 11)=.pointer (some ⟨gv11,0,none⟩):=hρ.tmp 11 rfl;obtain ⟨ya9,yc9,yj9,yn9⟩:=ZV.below z11 hb;obtain ⟨j90,j91,-⟩:=yj9;clear hρ hp;unfold OpRun;go_simp;exact hR _ _ (Below.refl _ _) ⟨ya9,yc9,rfl,yn9⟩)
    case o1=>(refine oQ rfl ?_;intro ρ w1 R hcon hfn hρ hb hp hR;have e2:ρ (.tmp 2)=.int .i64 (p:Int):=hρ.tmp 2 rfl;clear hρ hp;unfold OpRun;go_simp;exact hR _ _ (Below.refl _ _) rfl)
    case o2=>(refine oQ rfl ?_;intro ρ w1 R hcon hfn hρ hb hp hR;have e36:ρ (.tmp 36)=_:=hp 1 36 rfl rfl;clear hρ hp;unfold OpRun;go_simp;(refine (zTenD p _ (by first|assumption|omega)).mono ?_;rintro e wn ⟨v9,rfl,hz9,hbn⟩;exact ⟨_,rfl,hR _ _ hbn hz9⟩))
    case o3=>(refine oQ rfl ?_;intro ρ w1 R hcon hfn hρ hb hp hR;have f35:=hp 0 35 rfl rfl;have f37:=hp 2 37 rfl rfl;clear hρ hp;unfold OpRun;go_simp;(refine (zmulD _ _ _ _ _ f35 f37 (by first|assumption|omega) (by first|assumption|omega)).mono ?_;rintro e wn ⟨v9,rfl,hz9,hbn⟩;exact ⟨_,rfl,hR _ _ hbn hz9⟩))
    case after=>
     intro u wn hb hf
     have f38:=hf 3 38 (by omega) rfl
     clear hf
     simp only [putAll,Act.put,List.setIfInBounds_toArray,List.set_cons_zero,List.set_cons_succ,List.drop_succ_cons,List.drop_zero,List.drop_nil]
     obtain ⟨a6,c6,e38,n6⟩:=f38
     rw [e38]
     have yb:=below_trans y2 hb
     have z12a:=z12.below hb
     obtain ⟨a3,c3,zl3,n3⟩:=z11.below hb
     have zst:=zv_store1 (by decide) yb b11 zl3 n6
     have z12b:=z12a.set2 (zl3.2.2.2.2) (by decide) (Ne.symm gne) (.bool (zneg ((V:Int)*tenZ p))) (.slice a6 (zl ((V:Int)*tenZ p)).length c6)
     obtain ⟨k0,k1,kf0,kf1,-⟩:=id zl3
     have HZ:=hid (And.intro zst z12b)
     have EA:=hid eA
     have EB:=hid eB
     clear zst z12b z12a n3 e38 eA eB
     go_wp2_with fail
     go_meet
     exact ⟨HZ.out.1.1,HZ.out.1.2.cast EA.out,HZ.out.2.cast EB.out⟩
   ·obtain ⟨p,hp⟩: ∃p:Nat,K= -(p:Int):=⟨(-K).toNat,by omega⟩
    subst hp
    have eB:tenZ p=(B:Int):=by rw [HB2.out,Int.neg_neg,Int.toNat_natCast]
    have eA:(V:Int)=(A:Int):=by rw [HA2.out,show (-(p:Int)).toNat=0 by omega];exact (Int.mul_one _).symm
    have ZP:=hid (fun w=>zTenD p w (by omega))
    have wp:IntKind.i64.wrap (p:Int)=(p:Int):=IntWalk.i64_in _ (by omega)
    have hp2: ¬0≤ -(p:Int):=hk0
    have HEA:=hid eA
    have HEB:=hid eB
    clear eA eB hk0
    go_upto_region 8 with fail
    go_wp2_with (go_at_call 60;(with_reducible refine (ZP.out _).mono ?_);rintro en w3 ⟨v3,rfl,⟨a3,c3,rfl,n3⟩,hb3⟩;obtain ⟨a4,c4,zl4,n4⟩:=z12.below hb3;obtain ⟨k0,k1,kf0,kf1,-⟩:=id zl4;have HZ:=hid (And.intro (zv_store1 (by decide) (below_trans y2 hb3) b12 zl4 n3) ((z11.below hb3).set2 (zl4.2.2.2.2) (by decide) gne (.bool (zneg (tenZ p))) (.slice a3 (zl (tenZ p)).length c3))))
    go_meet
    exact ⟨HZ.out.1.1,HZ.out.2.cast HEA.out,HZ.out.1.2.cast HEB.out⟩
  case rest=>
   obtain ⟨yb,zA,zB⟩:=hcut
   obtain ⟨W3,hW3⟩: ∃W,W=wc:=⟨_,rfl⟩
   subst hW3
   clear HA2 HB2 z11 z12 y2
   have RV:=hid (fun r h0 h1 w=>rankVal_any r h0 h1 w)
   have RK:=hid (fun r h0 h1 w=>ranked_any r h0 h1 w)
   have CM:=hid (fun v r w hq zb za=>rbCmp_any v (rkD r) 1200 1100 (rvs r) (A:Int) (B:Int) 1074 gv11 gv12 w hq rfl (by omega) (by omega) zb za (by omega) (by omega))
   have QA:=hid (fun v u r s w h1 h2=>qadd_any v u (rkD r) (rkD s) 1200 1100 1200 1100 w h1 h2 (by omega) (by omega) (by omega) (by omega))
   obtain ⟨c,hc⟩: ∃c,c=fun r=>rdC 1074 A B r:=⟨_,rfl⟩
   have HC:=hid (fun r=>(show c r=rdC 1074 A B r by rw [hc]))
   have hc0:c 0≤0:=by rw [hc];exact rdC_zero 1074 A B
   clear hc
   go_upto_block 0 with fail
   go_cut [14,15,16] (fun s14 s15 s16 wx=> ∃l:Int,s14=.int .i64 l∧0≤l∧l<9218868437227405312∧c l≤0∧(l+1=9218868437227405312∨0<c (l+1))∧Below W3.heap.size W3 wx)
   case first=>as_aux_lemma=>
    go_wp2_with fail
    go_loopw [14,15,16] (fun s14 s15 s16 wr=> ∃lo hi:Int,s14=.int .i64 lo∧s15=.int .i64 hi∧0≤lo∧lo<hi∧hi≤9218868437227405312∧c lo≤0∧(hi=9218868437227405312∨0<c hi)∧Below W3.heap.size W3 wr) (fun s14 s15 _ _=>(intOf s15-intOf s14).toNat)
    case atStart=>exact ⟨0,_,rfl,rfl,by omega,by omega,by omega,hc0,.inl rfl,Below.refl _ _⟩
    case round=>
     obtain ⟨lo,hi,rfl,rfl,b1,b2,b3,hlo,hhi,hb⟩:=hrel
     have HLO:=hid hlo
     have HHI:=hid hhi
     clear hlo hhi hc0
     have w0:IntKind.i64.wrap (hi-lo)=hi-lo:=IntWalk.i64_in _ (by omega)
     by_cases hlt:1<hi-lo
     ·obtain ⟨td,tc,e1,e2,e3,e4,e5⟩:=tdiv2 (hi-lo)
      have w1:IntKind.i64.wrap td=td:=IntWalk.i64_in _ (by omega)
      obtain ⟨m,hm⟩: ∃m,m=lo+td:=⟨_,rfl⟩
      have w2:IntKind.i64.wrap m=m:=IntWalk.i64_in _ (by omega)
      have em:lo+td=m:=hm.symm
      have BND:=hid (show lo<m∧m<hi by omega)
      have RVm:=hid (fun w=>RV.out m (by omega) (by omega) w)
      have CMm:=hid (fun v w hq zb za=>by
       have h:=CM.out v m w hq zb za
       rwa [show cmpI (rvs m*(B:Int)) ((A:Int)*pw 1074)=c m from (HC.out m).symm] at h)
      obtain ⟨cm,hcm⟩: ∃x,x=c m:=⟨_,rfl⟩
      have HCM:=hid hcm
      rw [←hcm] at CMm
      have HBS:=hid (And.intro b1 b3)
      clear hm e3 e4 e5 hcm b1 b2 b3
      by_cases hs:cm≤0
      ·go_wp2_with (first
        |(go_at_call 84;(with_reducible refine (RVm.out _).mono ?_);rintro en w4 ⟨v4,rfl,hq4,hb4⟩)
        |(go_at_call 125;(with_reducible refine (CMm.out _ _ hq4 (zB.below (below_trans hb hb4)) (zA.below (below_trans hb hb4))).mono ?_);rintro en w5 ⟨rfl,hb5⟩))
       go_roundw
       case rel=>exact ⟨m,hi,rfl,rfl,by have:=BND.out;have:=HBS.out;omega,by have:=BND.out;omega,HBS.out.2,by rw [←HCM.out];exact hs,HHI.out,below_trans (below_trans hb hb4) hb5⟩
       case measure=>simp [intOf];have:=BND.out;omega
      ·go_wp2_with (first
        |(go_at_call 84;(with_reducible refine (RVm.out _).mono ?_);rintro en w4 ⟨v4,rfl,hq4,hb4⟩)
        |(go_at_call 125;(with_reducible refine (CMm.out _ _ hq4 (zB.below (below_trans hb hb4)) (zA.below (below_trans hb hb4))).mono ?_);rintro en w5 ⟨rfl,hb5⟩))
       go_roundw
       case rel=>exact ⟨lo,m,rfl,rfl,HBS.out.1,by have:=BND.out;omega,by have:=BND.out;have:=HBS.out;omega,HLO.out,.inr (by rw [←HCM.out];omega),below_trans (below_trans hb hb4) hb5⟩
       case measure=>simp [intOf];have:=BND.out;omega
     ·go_wp2_with fail
      go_meet
      exact ⟨lo,rfl,b1,by omega,HLO.out,by rw [show lo+1=hi by omega];exact HHI.out,hb⟩
   case rest=>
    obtain ⟨l,rfl,l0,l1,l2,l3,yb4⟩:=hcut
    have HL:=hid (And.intro l2 l3)
    clear l2 l3 hc0
    obtain ⟨W4,hW4⟩: ∃W,W=wc:=⟨_,rfl⟩
    subst hW4
    have yb5:=below_trans yb yb4
    replace zA:=zA.below yb4
    replace zB:=zB.below yb4
    clear yb yb4
    obtain ⟨mm,hmm⟩: ∃mm,mm=if neg=true then swM mode else mode:=⟨_,rfl⟩
    have HRT:=hid (show ∀(x:Int) (b:Bool) (e:Ending) (wz:World),rdA 1074 A B mm l=(x,b)→e=.returned (.tuple #[.int .u64 (x+sgb neg),.bool b])→Below w.heap.size w wz→RetRB neg A B mode w e wz from fun x b e wz h1 h2 h3=>by
     refine ⟨l,l0,l1,?_,?_,?_,h3⟩
     ·rw [←HC.out];exact HL.out.1
     ·rw [←HC.out];exact HL.out.2
     ·rw [←hmm,h1];exact h2)
    have HMM:=hid hmm
    have RVl:=hid (fun w=>RV.out l (by omega) (by omega) w)
    have RVk:=hid (fun w=>RV.out (l+1) (by omega) (by omega) w)
    have CMl:=hid (fun v w hq zb za=>by
     have h:=CM.out v l w hq zb za
     rwa [show cmpI (rvs l*(B:Int)) ((A:Int)*pw 1074)=c l from (HC.out l).symm] at h)
    by_cases hz:c l=0
    ·have HAN:=hid (show rdA 1074 A B mm l=(l,false) by unfold rdA;rw [←HC.out,if_pos hz])
     have RKl:=hid (fun w=>by have h:=RK.out l (by omega) (by omega) w;rwa [ranked_pos l l0] at h)
     have SG:=hid (fun w=>rSigned_any l l0 (by omega) neg w)
     rw [hz] at CMl
     clear hz hmm
     go_wp2_with (first
      |(go_at_call 84;(with_reducible refine (RVl.out _).mono ?_);rintro en w4 ⟨v4,rfl,hq4,hb4⟩)
      |(go_at_call 125;(with_reducible refine (CMl.out _ _ hq4 (zB.below hb4) (zA.below hb4)).mono ?_);rintro en w5 ⟨rfl,hb5⟩)
      |(go_at_call 85;(with_reducible refine (RKl.out _).mono ?_);rintro en w6 ⟨rfl,rfl⟩)
      |(go_at_call 32;(with_reducible refine (SG.out _).mono ?_);rintro en w7 ⟨rfl,rfl⟩))
     go_ret2
     exact HRT.out _ _ _ _ HAN.out rfl (below_trans (below_trans yb5 hb4) hb5)
    ·have HNZ:=hid (show rdC 1074 A B l≠0 by rw [←HC.out];exact hz)
     have hz2:(c l==0)=false:=beq_eq_false_iff_ne.2 hz
     generalize c l=cl at CMl hz2
     obtain ⟨md,hmd⟩: ∃m,m=rdM 1074 A B l:=⟨_,rfl⟩
     have hmb: -1≤md∧md≤1:=by
      rw [hmd];unfold rdM cmpI
      split
      ·omega
      ·split<;>omega
     obtain ⟨near,hnr⟩: ∃n,n= -md:=⟨_,rfl⟩
     have wn9:IntKind.i64.wrap (-md)=near:=by rw [IntWalk.i64_in _ (by omega)];exact hnr.symm
     have QAl:=hid (fun v u w h1 h2=>QA.out v u l (l+1) w h1 h2)
     obtain ⟨k9,hk9⟩: ∃k9:Nat,k9=1075:=⟨_,rfl⟩
     have hmid:shD (addD (rkD l) (rkD (l+1))) (-1)=nrm (rvs l+rvs (l+1)) (-(k9:Int)):=by rw [hk9];exact rkD_mid l
     have hmv:cmpI ((rvs l+rvs (l+1))*(B:Int)) ((A:Int)*pw k9)=md:=by rw [hk9,hmd];exact rdM_mid A B l
     obtain ⟨AA9,hAA9⟩: ∃a:Nat,a=max 1200 1200+max 1100 1100+1:=⟨_,rfl⟩
     obtain ⟨TT9,hTT9⟩: ∃a:Nat,a=max 1100 1100:=⟨_,rfl⟩
     rw [←hAA9,←hTT9] at QAl
     have QS:=hid (fun v w h=>qshift_any v (addD (rkD l) (rkD (l+1))) AA9 TT9 (-1) w h (by omega) (by omega) (by omega) (by omega))
     obtain ⟨DM,hDM⟩: ∃D,D=shD (addD (rkD l) (rkD (l+1))) (-1):=⟨_,rfl⟩
     rw [←hDM] at QS hmid
     have CMd:=hid (fun v w hq zb za=>by
      have h:=rbCmp_any v DM (AA9+400000) 400000 (rvs l+rvs (l+1)) (A:Int) (B:Int) k9 gv11 gv12 w hq hmid (by omega) (by omega) zb za (by omega) (by omega)
      rwa [hmv] at h)
     clear hDM hmid hmv hk9 hAA9 hTT9
     obtain ⟨u,hu⟩: ∃u,u=rbU neg mode near l:=⟨_,rfl⟩
     have HAN:=hid (show rdA 1074 A B mm l=(if u=true then l+1 else l,true) from rdA_up _ _ _ _ _ HNZ.out u (by rw [HMM.out,hu,hnr,hmd];exact (rbU_eq neg A B mode l m0 m1).symm))
     have HU:=hid hu
     clear hz hmm hmd hnr hmb hu HNZ HMM HC HL RV QA CM
     have w1:IntKind.i64.wrap (l+1)=l+1:=IntWalk.i64_in _ (by omega)
     generalize rkD l=K1 at *
     generalize rkD (l+1)=K2 at *
     go_upto_if 64 with (first
      |(go_at_call 84;(with_reducible refine (RVl.out _).mono ?_);rintro en w4 ⟨v4,rfl,hq4,hb4⟩)
      |(go_at_call 125;(with_reducible refine (CMl.out _ _ hq4 (zB.below hb4) (zA.below hb4)).mono ?_);rintro en w5 ⟨rfl,hb5⟩))
     obtain ⟨W5,hW5⟩: ∃W,W=w5:=⟨_,rfl⟩
     subst hW5
     have yb6:=below_trans (below_trans yb5 hb4) hb5
     have zB6:=(zB.below hb4).below hb5
     have zA6:=(zA.below hb4).below hb5
     clear zA zB hq4 hb4 hb5 yb5 CMl
     go_upto_region 19 with (first
      |(go_at_call 84;(first
       |((with_reducible refine (RVl.out _).mono ?_);rintro en w6 ⟨v6,rfl,hq6,hb6⟩)
       |((with_reducible refine (RVk.out _).mono ?_);rintro en w7 ⟨v7,rfl,hq7,hb7⟩)))
      |(go_at_call 40;(with_reducible refine (QAl.out _ _ _ (hq6.below hb7) hq7).mono ?_);rintro en w8 ⟨v8,rfl,hq8,hb8⟩)
      |(go_at_call 87;(with_reducible refine (QS.out _ _ hq8).mono ?_);rintro en w9 ⟨v9,rfl,hq9,hb9⟩;have yb9:=below_trans (below_trans (below_trans hb6 hb7) hb8) hb9)
      |(go_at_call 125;(with_reducible refine (CMd.out _ _ hq9 (zB6.below yb9) (zA6.below yb9)).mono ?_);rintro en wa ⟨rfl,hba⟩))
     obtain ⟨W6,hW6⟩: ∃W,W=wa:=⟨_,rfl⟩
     subst hW6
     have yba:=below_trans (below_trans yb6 yb9) hba
     clear hq6 hb6 hq7 hb7 hq8 hb8 hq9 hb9 hba yb9 yb6 zB6 zA6 QAl QS CMd RVl RVk
     go_cut [18] (fun s18 wx=>s18=.bool u∧wx=W6)
     case first=>as_aux_lemma=>
      have hmode:mode=0∨mode=1∨mode=2∨mode=3∨mode=4:=by omega
      have H0:=HU.out
      clear HU HAN RK HRT yba
      rcases hmode with h|h|h|h|h<;>subst h
      ·by_cases p1:0<near
       ·have H5:=hid (show u=true by rw [H0];unfold rbU;simp [p1])
        clear H0
        go_wp2_with fail
        go_meet
        exact ⟨by rw [H5.out],rfl⟩
       ·by_cases p2:near=0
        ·have p3:(near==0)=true:=beq_iff_eq.2 p2
         obtain ⟨ta,tc,-,e2,e3,e4,e5⟩:=tdiv2 l
         have e6:0≤tc:=by rw [←e2];exact Int.tmod_nonneg _ l0
         by_cases p4:tc=1
         ·have p5:(tc==1)=true:=beq_iff_eq.2 p4
          have H5:=hid (show u=true by rw [H0];unfold rbU;simp [p2];omega)
          clear H0 p2 e3 e4 e5 e6 p4
          go_wp2_with fail
          go_meet
          exact ⟨by rw [H5.out],rfl⟩
         ·have p5:(tc==1)=false:=beq_eq_false_iff_ne.2 p4
          have H5:=hid (show u=false by rw [H0];unfold rbU;simp [p2];omega)
          clear H0 p2 e3 e4 e5 e6 p4
          go_wp2_with fail
          go_meet
          exact ⟨by rw [H5.out],rfl⟩
        ·have p3:(near==0)=false:=beq_eq_false_iff_ne.2 p2
         have H5:=hid (show u=false by rw [H0];unfold rbU;simp [p1,p2])
         clear H0 p2
         go_wp2_with fail
         go_meet
         exact ⟨by rw [H5.out],rfl⟩
      ·cases neg
       ·have H5:=hid (show u=true by rw [H0];unfold rbU;simp)
        clear H0
        go_wp2_with fail
        go_meet
        exact ⟨by rw [H5.out],rfl⟩
       ·have H5:=hid (show u=false by rw [H0];unfold rbU;simp)
        clear H0
        go_wp2_with fail
        go_meet
        exact ⟨by rw [H5.out],rfl⟩
      ·cases neg
       ·have H5:=hid (show u=false by rw [H0];unfold rbU;simp)
        clear H0
        go_wp2_with fail
        go_meet
        exact ⟨by rw [H5.out],rfl⟩
       ·have H5:=hid (show u=true by rw [H0];unfold rbU;simp)
        clear H0
        go_wp2_with fail
        go_meet
        exact ⟨by rw [H5.out],rfl⟩
      ·have H5:=hid (show u=false by rw [H0];unfold rbU;simp)
       clear H0
       go_wp2_with fail
       go_meet
       exact ⟨by rw [H5.out],rfl⟩
      ·by_cases p1:0≤near
       ·have H5:=hid (show u=true by rw [H0];unfold rbU;simp [p1])
        clear H0
        go_wp2_with fail
        go_meet
        exact ⟨by rw [H5.out],rfl⟩
       ·have H5:=hid (show u=false by rw [H0];unfold rbU;simp [p1])
        clear H0
        go_wp2_with fail
        go_meet
        exact ⟨by rw [H5.out],rfl⟩
     case rest=>
      obtain ⟨rfl,rfl⟩:=hcut
      cases u
      ·have RKl:=hid (fun w=>by have h:=RK.out l (by omega) (by omega) w;rwa [ranked_pos l l0] at h)
       have SG:=hid (fun w=>rSigned_any l l0 (by omega) neg w)
       clear HU RK
       go_wp2_with (first
        |(go_at_call 85;(with_reducible refine (RKl.out _).mono ?_);rintro en wb ⟨rfl,rfl⟩)
        |(go_at_call 32;(with_reducible refine (SG.out _).mono ?_);rintro en wb ⟨rfl,rfl⟩))
       go_ret2
       exact HRT.out _ _ _ _ HAN.out rfl yba
      ·have RKl:=hid (fun w=>by have h:=RK.out (l+1) (by omega) (by omega) w;rwa [ranked_pos (l+1) (by omega)] at h)
       have SG:=hid (fun w=>rSigned_any (l+1) (by omega) (by omega) neg w)
       clear HU RK
       go_wp2_with (first
        |(go_at_call 85;(with_reducible refine (RKl.out _).mono ?_);rintro en wb ⟨rfl,rfl⟩)
        |(go_at_call 32;(with_reducible refine (SG.out _).mono ?_);rintro en wb ⟨rfl,rfl⟩))
       go_ret2
       exact HRT.out _ _ _ _ HAN.out rfl yba
end Go.Proofs.YtehhegbkahnhgaaGreatDoor
namespace Go.Ulp
open Go.RowKit
def PI (ti:TypeId) (w:World) (x:Int×Int) (v:Value):Prop:= ∃a c b d,v=.agg #[.bool (zneg x.1),.slice a (zl x.1).length c,.bool (zneg x.2),.slice b (zl x.2).length d]∧Nz ti w a c (zl x.1)∧Nz ti w b d (zl x.2)
def RetPI (ti:TypeId) (w:World) (x:Int×Int) (e:Ending) (w':World):Prop:= ∃v,e=.returned v∧PI ti w' x v∧Below w.heap.size w w'
theorem PZ.pi {ti:TypeId} {w:World} {x:PP} {v:Value} (h:PZ ti w x v):PI ti w ((x.1:Int),(x.2:Int)) v:=by
 obtain ⟨a,c,b,d,rfl,h1,h2⟩:=h
 exact ⟨a,c,b,d,by rw [zneg_nat,zneg_nat],h1,h2⟩
theorem zl_le10I {x:Int} {E:Nat} (h:x.natAbs≤10^E):(zl x).length≤E/4+1:=
 Nat.le_trans (zl_len_le (x:=x) (y:=tenZ E) (by unfold tenZ;rw [Int.natAbs_natCast];exact h)) (zl_len_ten4 E)
end Go.Ulp
namespace Go.Proofs.YtehhegbkahnhgaaGreatDoor
open Go.RowKit Go.Ulp
set_option maxHeartbeats 4000000
set_option maxRecDepth 100000
end Go.Proofs.YtehhegbkahnhgaaGreatDoor
namespace Go.Ulp
open Go.RowKit
theorem decD_dg (n:Nat):AllDg (decD n):=by
 induction n using Nat.strongRecOn with
 |ind n ih=>
  by_cases h:n<10
  ·rw [decD_small h]
   intro b hb
   rw [List.mem_singleton] at hb;subst hb
   unfold isDg
   rw [decide_eq_true_eq,UInt8.toNat_ofNat'];omega
  ·rw [decD_big h]
   intro b hb
   rcases List.mem_append.1 hb with h1|h1
   ·exact ih (n/10) (by omega) b h1
   ·rw [List.mem_singleton] at h1;subst h1
    unfold isDg
    rw [decide_eq_true_eq,UInt8.toNat_ofNat'];omega
theorem dvl_decD (n:Nat):dvl (decD n)=n:=by
 induction n using Nat.strongRecOn with
 |ind n ih=>
  by_cases h:n<10
  ·rw [decD_small h,dvl_cons]
   show (UInt8.ofNat (48+n)).toNat-48=n
   rw [UInt8.toNat_ofNat'];omega
  ·rw [decD_big h]
   have h1:=ih (n/10) (by omega)
   unfold dvl at h1 ⊢
   rw [dvA_app,h1,dvA_cons]
   show n/10*10+((UInt8.ofNat (48+n%10)).toNat-48)=n
   rw [UInt8.toNat_ofNat'];omega
def vX (V mode:Int):Int:=numX (decide (V<0)) V.natAbs (-1076) mode
theorem vX_rnd (V mode:Int) (m0:0≤mode) (m1:mode≤4): ∃ch,Rnd 2 V mode (vX V mode) ch:=by
 have h:=number_rnd (decide (V<0)) V.natAbs (-1076) mode 2 m0 m1 (fun h=>decide_eq_false (by omega)) (by decide)
 have e0:(-1076+1074+((2:Nat):Int)).toNat=0:=by decide
 have e:sg (decide (V<0)) ((V.natAbs*2^(-1076+1074+((2:Nat):Int)).toNat:Nat):Int)=V:=by
  rw [e0,Nat.pow_zero,Nat.mul_one]
  unfold sg
  by_cases hn:V<0
  ·rw [decide_eq_true hn,if_pos rfl];omega
  ·rw [decide_eq_false hn,if_neg (by decide)];omega
 rw [e] at h
 exact ⟨_,h⟩
theorem vX_of {V mode X:Int} {ch:Bool} (m0:0≤mode) (m1:mode≤4) (h:Rnd 2 V mode X ch):X=vX V mode:=by
 obtain ⟨c,h2⟩:=vX_rnd V mode m0 m1
 exact (h.uniq h2).1
theorem st_tiny {n D z:Nat} (hz:z=1075) (h0:0<n) (h:n*2^z<D):st (n:Int) D=1:=by
 have e:(n:Int)*pw 1075=((n*2^z:Nat):Int):=by rw [←hz,pw_nat,Int.natCast_mul]
 have hp:0<n*2^z:=Nat.mul_pos h0 (Nat.two_pow_pos _)
 unfold st
 rw [e]
 generalize n*2^z=y at *
 have a:((y:Int))/(D:Int)=0:=Int.ediv_eq_zero_of_lt (by omega) (by omega)
 have b:((y:Int))%(D:Int)=y:=Int.emod_eq_of_lt (by omega) (by omega)
 rw [a,b,if_neg (by omega)]
 rfl
theorem p1075 (N n z:Nat) (h:n<10^N) (q:Nat) (hq:z+N≤q):n*2^z<10^q:=by
 have a:n*2^z<10^N*2^z:=(Nat.mul_lt_mul_right (Nat.two_pow_pos z)).2 h
 have b:10^N*2^z≤10^N*10^z:=Nat.mul_le_mul_left _ (Nat.pow_le_pow_left (by omega) z)
 have c:10^N*10^z≤10^q:=by rw [←Nat.pow_add];exact Nat.pow_le_pow_right (by omega) (by omega)
 omega
theorem st_clamp (n N t:Nat) (h0:0<n) (hN:n<10^N):st ((rdNum n N (-(t:Int)):Nat):Int) (rdDen N (-(t:Int)))=st (n:Int) (10^t):=by
 obtain ⟨K,hK⟩: ∃K,K=rkc N (-(t:Int)):=⟨_,rfl⟩
 have hA:rdNum n N (-(t:Int))=n*10^K.toNat:=by rw [hK];rfl
 have hB:rdDen N (-(t:Int))=10^(-K).toNat:=by rw [hK];rfl
 rw [hA,hB]
 unfold rkc at hK
 have k0:K.toNat=0:=by omega
 rw [k0,Nat.pow_zero,Nat.mul_one]
 obtain ⟨q,hq⟩: ∃q,q=(-K).toNat:=⟨_,rfl⟩
 rw [←hq]
 by_cases h:q=t
 ·rw [h]
 ·obtain ⟨z,hz⟩: ∃z,z=1075:=⟨_,rfl⟩
  rw [st_tiny hz h0 (p1075 N n z hN q (by omega)),st_tiny hz h0 (p1075 N n z hN t (by omega))]
theorem read_vX {neg:Bool} {n t:Nat} {mode:Int} {w w':World} {e:Ending} (m0:0≤mode) (m1:mode≤4) (h0:0<n) (h:RetRB neg (rdNum (dvl (decD n)) (decD n).length (-(t:Int))) (rdDen (decD n).length (-(t:Int))) mode w e w'):
 ∃b,e=.returned (.tuple #[.int .u64 (vX (st (sg neg (n:Int)) (10^t)) mode),.bool b])∧Below w.heap.size w w':=by
 rw [dvl_decD] at h
 obtain ⟨l,l0,l1,l2,l3,l4,l5⟩:=h
 obtain ⟨k,rfl⟩:=Int.eq_ofNat_of_zero_le l0
 have hA:0<rdNum n (decD n).length (-(t:Int)):=by unfold rdNum;exact Nat.mul_pos h0 (Nat.pow_pos (by omega))
 have hB:0<rdDen (decD n).length (-(t:Int)):=by unfold rdDen;exact Nat.pow_pos (by omega)
 obtain ⟨ch,r⟩:=read_st _ _ hA hB neg mode m0 m1 k l1 l2 l3
 rw [st_clamp n _ t h0 (decD_lt n)] at r
 have es:sg neg (st (n:Int) (10^t))=st (sg neg (n:Int)) (10^t):=by
  have hs:=st_neg (n:Int) (10^t) (Nat.pow_pos (by omega))
  unfold sg
  cases neg
  ·rw [if_neg (by decide),if_neg (by decide)]
  ·rw [if_pos rfl,if_pos rfl,hs]
 rw [es] at r
 rw [vX_of m0 m1 r] at l4
 exact ⟨_,l4,l5⟩
def dgT (n:Nat):List UInt8:=if n=0 then [] else decD n
def Fact.rb (X:Int):Fact:=⟨fun v _=> ∃b,v=.tuple #[.int .u64 X,.bool b],fun _ _ _ h _=>h⟩
def Fact.bo:Fact:=⟨fun v _=> ∃b,v=.bool b,fun _ _ _ h _=>h⟩
theorem ret_bs9 {L M:List UInt8} (h:L=M):Ending.returned (.string (bsOf L))=.returned (.string (bsOf M)):=by rw [h]
end Go.Ulp
namespace Go.Proofs.YtehhegbkahnhgaaGreatDoor
open Go.RowKit Go.Ulp
set_option maxHeartbeats 4000000
set_option maxRecDepth 100000
theorem digitsOf_any (n:Nat) (v:Value) (w:World) (hv:ZD 3 w (n:Int) v) (hl:(zl (n:Int)).length≤2000000000):
 Calls Tryz.prog 117 #[v] w fun e w'=>e=.returned (.string (bsOf (dgT n)))∧Below w.heap.size w w':=by
 have ZT:=hid (fun v w h=>zTextD v (n:Int) w h hl)
 rw [show zTx (n:Int)=decD n by unfold zTx;rw [if_neg (by omega),Int.natAbs_natCast]] at ZT
 have HN:=hid (show n=0↔(zl (n:Int)).length=0 from by
  have h:=decs_nil n
  constructor
  ·intro h1;rw [h1];rfl
  ·intro h1;exact h.1 (List.length_eq_zero_iff.1 h1))
 obtain ⟨a,c,rfl,h0⟩:=hv
 have yb:=below_alloc w (.cells #[.bool (zneg (n:Int)),.slice a (zl (n:Int)).length c] 47)
 have zA:=zv_made (tz:=47) h0 w.heap.size rfl
 have HZ:=hid (show ZD 3 (w.alloc (.cells #[.bool (zneg (n:Int)),.slice a (zl (n:Int)).length c] 47)) (n:Int) (.agg #[.bool (zneg (n:Int)),.slice a (zl (n:Int)).length c]) from ⟨a,c,rfl,h0.below yb⟩)
 have zL:ZL 47 (w.alloc (.cells #[.bool (zneg (n:Int)),.slice a (zl (n:Int)).length c] 47)) w.heap.size (zneg (n:Int)) (.slice a (zl (n:Int)).length c):=ZL.made rfl
 obtain ⟨j0,j1,-⟩:=id zL
 clear h0 zA hl
 obtain ⟨N,hN⟩: ∃N,N=(zl (n:Int)).length:=⟨_,rfl⟩
 rw [←hN] at HN j0 j1 HZ zL yb ⊢
 by_cases hz:n=0
 ·have hb:((N:Int)==0)=true:=beq_iff_eq.2 (by have:=HN.out.1 hz;omega)
  have HD:=hid (show dgT n= [] by unfold dgT;rw [if_pos hz])
  clear hz hN HN
  go_enter Tryz.func117,Tryz.ntmps117
  go_wp2_with fail
  go_ret
  exact ⟨ret_bs9 HD.out.symm,yb⟩
 ·have hb:((N:Int)==0)=false:=beq_eq_false_iff_ne.2 (fun h=>hz (HN.out.2 (by omega)))
  have HD:=hid (show dgT n=decD n by unfold dgT;rw [if_neg hz])
  clear hz hN HN
  go_enter Tryz.func117,Tryz.ntmps117
  go_wp2_with (go_at_call 131;(with_reducible refine (ZT.out _ _ HZ.out).mono ?_);rintro en w2 ⟨rfl,hb2⟩)
  go_ret
  exact ⟨ret_bs9 HD.out.symm,below_trans yb hb2⟩
end Go.Proofs.YtehhegbkahnhgaaGreatDoor
namespace Go.Ulp
open Go.RowKit
def RetGI (ti:TypeId) (w:World) (Good:Nat→Int×Int→Prop) (t:Nat) (en:Ending) (w':World):Prop:= ∃x,Good t x∧RetPI ti w x en w'
end Go.Ulp
namespace Go.Proofs.YtehhegbkahnhgaaGreatDoor
open Go.RowKit Go.Ulp
set_option maxHeartbeats 4000000
set_option maxRecDepth 100000
end Go.Proofs.YtehhegbkahnhgaaGreatDoor
namespace Go.Ulp
open Go.RowKit
theorem sg_zneg (z:Int):sg (zneg z) (z.natAbs:Int)=z:=by
 unfold sg zneg
 by_cases h:z<0
 ·rw [decide_eq_true h,if_pos rfl];omega
 ·rw [decide_eq_false h,if_neg (by decide)];omega
end Go.Ulp
namespace Go.Proofs.YtehhegbkahnhgaaGreatDoor
open Go.RowKit Go.Ulp
set_option maxHeartbeats 4000000
set_option maxRecDepth 100000
theorem tensC_any (z:Int) (hz:z≠0) (t:Nat) (mode:Int) (gt gm E:Nat) (v:Value) (w:World) (hv:ZD 3 w z v) (cT:CV w gt (.int .i64 (t:Int))) (cM:CV w gm (.int .i64 mode)) (hE:E=3100000000) (hs:z.natAbs<10^E) (ht:t≤3100000000) (m0:0≤mode) (m1:mode≤4):
 Calls Tryz.prog 116 #[v,.pointer (some ⟨gt,0,none⟩),.pointer (some ⟨gm,0,none⟩)] w fun e w'=>e=.returned (.int .u64 (vX (st z (10^t)) mode))∧Below w.heap.size w w':=by
 have hn:0<z.natAbs:=by omega
 have lz:=zl_le10 (x:=z.natAbs) (E:=E) (Nat.le_of_lt hs)
 have ZB:=hid (fun v w h=>zabsD v z w h)
 have DG:=hid (fun v w h=>digitsOf_any z.natAbs v w h (by omega))
 have hD:dgT z.natAbs=decD z.natAbs:=by unfold dgT;rw [if_neg (by omega)]
 rw [hD] at DG
 have RB:=hid (show ∀w,Calls Tryz.prog 96 #[.bool (zneg z),.string (bsOf (decD z.natAbs)),.int .i64 (-(t:Int)),.int .i64 mode] w (fun e w'=> ∃b,e=.returned (.tuple #[.int .u64 (vX (st z (10^t)) mode),.bool b])∧Below w.heap.size w w') from fun w=>by
  have h:=readBits_any (zneg z) (decD z.natAbs) (-(t:Int)) mode w (decD_dg _) (decD_pos _) (Nat.le_trans (decD_len_lt _ E hs (by omega)) (by omega)) ⟨by omega,by omega⟩ m0 m1
  refine h.mono (fun e w' hr=>?_)
  have:=read_vX m0 m1 hn hr
  rw [sg_zneg] at this
  exact this)
 obtain ⟨a,c,rfl,h0⟩:=hv
 have yb0:=below_alloc w (.cells #[.bool (zneg z),.slice a (zl z).length c] 47)
 have zA:=zv_made (tz:=47) h0 w.heap.size rfl
 have cT0:=cT.below yb0
 have cM0:=cM.below yb0
 have wt:IntKind.i64.wrap (-(t:Int))= -(t:Int):=IntWalk.i64_in _ (by omega)
 clear h0 cT cM hn hs lz hz hD
 generalize vX (st z (10^t)) mode=X at *
 generalize decD z.natAbs=L at *
 go_enter Tryz.func116,Tryz.ntmps116
 go_upto_region 1 with fail
 refine wp_worldZ (fun WW=>Below w.heap.size w WW∧ZV 47 3 WW w.heap.size z∧CV WW gt (.int .i64 (t:Int))∧CV WW gm (.int .i64 mode)) ⟨yb0,zA,cT0,cM0⟩ ?_
 clear yb0 zA cT0 cM0
 intro W1 ⟨yb1,zA,cT,cM⟩
 refine wp_region_grow 14 [8,9,10,11,12,13,14,15,16,7,17,18,5,6] [Fact.is (.pointer (some ⟨w.heap.size,0,none⟩)),Fact.is (.bool (zneg z)),Fact.z 3 (z),Fact.z 3 (z.natAbs:Int),Fact.is (.string (bsOf L)),Fact.is (.int .i64 (t:Int)),Fact.is (.int .i64 (-(t:Int))),Fact.is (.int .i64 mode),Fact.rb X,Fact.rb X,Fact.is (.int .u64 X),Fact.bo,Fact.is (.int .u64 X),Fact.bo] (by kernel_rfl) (by kernel_rfl) ⟨?o0,?o1,?o2,?o3,?o4,?o5,?o6,?o7,?o8,?o9,?o10,?o11,?o12,?o13,trivial⟩ ?after
 case o0=>(refine oQ rfl ?_;intro ρ w1 R hcon hfn hρ hb hp hR;have e3:ρ (.tmp 3)=.pointer (some ⟨w.heap.size,0,none⟩):=hρ.tmp 3 rfl;clear hρ hp;unfold OpRun;go_simp;exact hR _ _ (Below.refl _ _) rfl)
 case o1=>(refine oQ rfl ?_;intro ρ w1 R hcon hfn hρ hb hp hR;have e8:ρ (.tmp 8)=_:=hp 0 8 rfl rfl;obtain ⟨a9,c9,⟨j0,j1,-⟩,-⟩:=zA.below hb;clear hρ hp;unfold OpRun;go_simp;exact hR _ _ (Below.refl _ _) rfl)
 case o2=>(refine oQ rfl ?_;intro ρ w1 R hcon hfn hρ hb hp hR;have e3:ρ (.tmp 3)=.pointer (some ⟨w.heap.size,0,none⟩):=hρ.tmp 3 rfl;obtain ⟨ya9,yc9,yj9,yn9⟩:=ZV.below zA hb;obtain ⟨j90,j91,-⟩:=yj9;clear hρ hp;unfold OpRun;go_simp;exact hR _ _ (Below.refl _ _) ⟨ya9,yc9,rfl,yn9⟩)
 case o3=>(refine oQ rfl ?_;intro ρ w1 R hcon hfn hρ hb hp hR;have f10:=hp 2 10 rfl rfl;clear hρ hp;unfold OpRun;go_simp;(refine (ZB.out _ _ f10).mono ?_;rintro e wn ⟨v9,rfl,hv9,hbn⟩;exact ⟨_,rfl,hR _ _ hbn hv9⟩))
 case o4=>(refine oQ rfl ?_;intro ρ w1 R hcon hfn hρ hb hp hR;have f11:=hp 3 11 rfl rfl;clear hρ hp;unfold OpRun;go_simp;(refine (DG.out _ _ f11).mono ?_;rintro e wn ⟨rfl,hbn⟩;exact ⟨_,rfl,hR _ _ hbn rfl⟩))
 case o5=>(refine oQ rfl ?_;intro ρ w1 R hcon hfn hρ hb hp hR;have e1:ρ (.tmp 1)=.pointer (some ⟨gt,0,none⟩):=hρ.tmp 1 rfl;have j12:=(cT.below hb).1;clear hρ hp;unfold OpRun;go_simp;exact hR _ _ (Below.refl _ _) rfl)
 case o6=>(refine oQ rfl ?_;intro ρ w1 R hcon hfn hρ hb hp hR;have e13:ρ (.tmp 13)=_:=hp 5 13 rfl rfl;clear hρ hp;unfold OpRun;go_simp;exact hR _ _ (Below.refl _ _) rfl)
 case o7=>(refine oQ rfl ?_;intro ρ w1 R hcon hfn hρ hb hp hR;have e2:ρ (.tmp 2)=.pointer (some ⟨gm,0,none⟩):=hρ.tmp 2 rfl;have j12:=(cM.below hb).1;clear hρ hp;unfold OpRun;go_simp;exact hR _ _ (Below.refl _ _) rfl)
 case o8=>(refine oQ rfl ?_;intro ρ w1 R hcon hfn hρ hb hp hR;have e9:ρ (.tmp 9)=_:=hp 1 9 rfl rfl;have e12:ρ (.tmp 12)=_:=hp 4 12 rfl rfl;have e14:ρ (.tmp 14)=_:=hp 6 14 rfl rfl;have e15:ρ (.tmp 15)=_:=hp 7 15 rfl rfl;clear hρ hp;unfold OpRun;go_simp;(refine (RB.out _).mono ?_;rintro e wn ⟨b9,rfl,hbn⟩;exact ⟨_,rfl,hR _ _ hbn ⟨b9,rfl⟩⟩))
 case o9=>(refine oQ rfl ?_;intro ρ w1 R hcon hfn hρ hb hp hR;have f16:=hp 8 16 rfl rfl;clear hρ hp;unfold OpRun;go_simp;exact hR _ _ (Below.refl _ _) f16)
 case o10=>(refine oQ rfl ?_;intro ρ w1 R hcon hfn hρ hb hp hR;have f7:=hp 9 7 rfl rfl;obtain ⟨b9,e9⟩:=f7;clear hρ hp;unfold OpRun;go_simp;exact hR _ _ (Below.refl _ _) rfl)
 case o11=>(refine oQ rfl ?_;intro ρ w1 R hcon hfn hρ hb hp hR;have f7:=hp 9 7 rfl rfl;obtain ⟨b9,e9⟩:=f7;clear hρ hp;unfold OpRun;go_simp;exact hR _ _ (Below.refl _ _) ⟨b9,rfl⟩)
 case o12=>(refine oQ rfl ?_;intro ρ w1 R hcon hfn hρ hb hp hR;have e17:ρ (.tmp 17)=_:=hp 10 17 rfl rfl;clear hρ hp;unfold OpRun;go_simp;exact hR _ _ (Below.refl _ _) rfl)
 case o13=>(refine oQ rfl ?_;intro ρ w1 R hcon hfn hρ hb hp hR;have f18:=hp 11 18 rfl rfl;clear hρ hp;unfold OpRun;go_simp;exact hR _ _ (Below.refl _ _) f18)
 case after=>
  intro u wn hb hf
  have e5:u 5=_:=hf 12 5 (by omega) rfl
  have f6:=hf 13 6 (by omega) rfl
  clear hf
  simp only [putAll,Act.put,List.setIfInBounds_toArray,List.set_cons_zero,List.set_cons_succ,List.drop_succ_cons,List.drop_zero,List.drop_nil]
  rw [e5]
  obtain ⟨b6,e6⟩:=f6
  rw [e6]
  go_wp2_with fail
  go_ret
  exact ⟨rfl,below_trans yb1 hb⟩
theorem ent_tn (v p q:Value) (w:World):Sem.run Tryz.prog (callFunc 116 #[v,p,q]) w=.ok (.enter 116 #[v,p,q]) w:=by
 simp [callFunc,go_sem,Tryz.func116,Tryz.f116]
theorem tens_any (x:Int×Int) (h1:x.1≠0) (h2:x.2≠0) (t:Nat) (mode:Int) (E:Nat) (v:Value) (w:World) (hv:PI 3 w x v) (hE:E=3100000000) (hs1:x.1.natAbs<10^E) (hs2:x.2.natAbs<10^E) (ht:t≤3100000000) (m0:0≤mode) (m1:mode≤4):
 Calls Tryz.prog 89 #[v,.int .i64 (t:Int),.int .i64 mode] w fun e w'=>e=.returned (.tuple #[.int .u64 (vX (st x.1 (10^t)) mode),.bool (vX (st x.1 (10^t)) mode==vX (st x.2 (10^t)) mode)])∧Below w.heap.size w w':=by
 obtain ⟨x1,x2⟩:=x
 obtain ⟨a0,c0,a1,c1,rfl,n0,n1⟩:=hv
 simp only at h1 h2 hs1 hs2 n0 n1 ⊢
 have TC1:=hid (fun gt gm v w hv cT cM=>tensC_any x1 h1 t mode gt gm E v w hv cT cM hE hs1 ht m0 m1)
 have TC2:=hid (fun gt gm v w hv cT cM=>tensC_any x2 h2 t mode gt gm E v w hv cT cM hE hs2 ht m0 m1)
 obtain ⟨W0,hW0⟩: ∃W,W=((w.alloc (.cells #[.bool (zneg x1),.slice a0 (zl x1).length c0,.bool (zneg x2),.slice a1 (zl x2).length c1] 63)).alloc (.cells #[.int .i64 (t:Int)] 3)).alloc (.cells #[.int .i64 mode] 3):=⟨_,rfl⟩
 have yb0:Below w.heap.size w W0:=by rw [hW0];(repeat' first|(with_reducible first|assumption|apply bR|apply bA|apply bN|apply bD|apply bL|apply bS)|refine bT ?_ (by assumption)|go_size)
 have zA:BC 63 W0 w.heap.size (zneg x1) (.slice a0 (zl x1).length c0) (zneg x2) (.slice a1 (zl x2).length c1):=by rw [hW0];exact ((BC.made rfl).below (below_alloc _ _)).below (below_alloc _ _)
 have zT:CV W0 (w.heap.size+1) (.int .i64 (t:Int)):=by
  rw [hW0]
  have:=(CV.made (w:=w.alloc (.cells #[.bool (zneg x1),.slice a0 (zl x1).length c0,.bool (zneg x2),.slice a1 (zl x2).length c1] 63)) (v:=.int .i64 (t:Int)) (t:=3))
  have h:=this.below (below_alloc _ (.cells #[.int .i64 mode] 3))
  simpa using h
 have zM:CV W0 (w.heap.size+2) (.int .i64 mode):=by
  rw [hW0]
  have:=(CV.made (w:=(w.alloc (.cells #[.bool (zneg x1),.slice a0 (zl x1).length c0,.bool (zneg x2),.slice a1 (zl x2).length c1] 63)).alloc (.cells #[.int .i64 (t:Int)] 3)) (v:=.int .i64 mode) (t:=3))
  simpa using this
 have H0:=hid (n0.below yb0)
 have H1:=hid (n1.below yb0)
 have hmf: ∀fn first cap w,(Instr.makeFunc fn first cap).run Tryz.prog w=.ok (.func fn first cap) w:=fun _ _ _ _=>rfl
 clear n0 n1 h1 h2 hs1 hs2
 generalize vX (st x1 (10^t)) mode=X1 at *
 generalize vX (st x2 (10^t)) mode=X2 at *
 go_enter Tryz.func89,Tryz.ntmps89
 go_upto_region 2 with fail
 rw [←hW0]
 have HT:=hid (show ∀w',Below W0.heap.size W0 w'→CV w' (w.heap.size+1) (.int .i64 (t:Int))∧CV w' (w.heap.size+2) (.int .i64 mode) from fun w' hb=>⟨zT.below hb,zM.below hb⟩)
 clear hW0 zT zM
 have hent:=fun v w=>ent_tn v (.pointer (some ⟨w.heap.size+1,0,none⟩)) (.pointer (some ⟨w.heap.size+2,0,none⟩)) w
 refine wp_region_grow 10 [12,13,14,15,16,17,18,19,9,10] [Fact.is (.func (.func 116) #[] #[.pointer (some ⟨w.heap.size+1,0,none⟩),.pointer (some ⟨w.heap.size+2,0,none⟩)]),Fact.is (.pointer (some ⟨w.heap.size,0,none⟩)),Fact.z 3 x1,Fact.is (.int .u64 X1),Fact.is (.func (.func 116) #[] #[.pointer (some ⟨w.heap.size+1,0,none⟩),.pointer (some ⟨w.heap.size+2,0,none⟩)]),Fact.is (.pointer (some ⟨w.heap.size,2,none⟩)),Fact.z 3 x2,Fact.is (.int .u64 X2),Fact.is (.int .u64 X1),Fact.is (.int .u64 X2)] (by kernel_rfl) (by kernel_rfl) ⟨?o0,?o1,?o2,?o3,?o4,?o5,?o6,?o7,?o8,?o9,trivial⟩ ?after
 case o0=>(refine oQ rfl ?_;intro ρ w1 R hcon hfn hρ hb hp hR;have e8:ρ (.tmp 8)=.func (.func 116) #[] #[.pointer (some ⟨w.heap.size+1,0,none⟩),.pointer (some ⟨w.heap.size+2,0,none⟩)]:=hρ.tmp 8 rfl;clear hρ hp;unfold OpRun;go_simp;exact hR _ _ (Below.refl _ _) rfl)
 case o1=>(refine oQ rfl ?_;intro ρ w1 R hcon hfn hρ hb hp hR;have e3:ρ (.tmp 3)=.pointer (some ⟨w.heap.size,0,none⟩):=hρ.tmp 3 rfl;clear hρ hp;unfold OpRun;go_simp;exact hR _ _ (Below.refl _ _) rfl)
 case o2=>(refine oQ rfl ?_;intro ρ w1 R hcon hfn hρ hb hp hR;have e13:ρ (.tmp 13)=_:=hp 1 13 rfl rfl;obtain ⟨⟨q0,q1,q2,q3⟩,-⟩:=zA.below hb;clear hρ hp;unfold OpRun;go_simp;exact hR _ _ (Below.refl _ _) ⟨a0,c0,rfl,H0.out.below hb⟩)
 case o3=>(refine oQ rfl ?_;intro ρ w1 R hcon hfn hρ hb hp hR;have e12:ρ (.tmp 12)=_:=hp 0 12 rfl rfl;have f14:=hp 2 14 rfl rfl;clear hρ hp;unfold OpRun;go_simp;(refine (TC1.out _ _ _ _ f14 (HT.out _ hb).1 (HT.out _ hb).2).mono ?_;rintro e wn ⟨rfl,hbn⟩;exact ⟨_,rfl,hR _ _ hbn rfl⟩))
 case o4=>(refine oQ rfl ?_;intro ρ w1 R hcon hfn hρ hb hp hR;have e8:ρ (.tmp 8)=.func (.func 116) #[] #[.pointer (some ⟨w.heap.size+1,0,none⟩),.pointer (some ⟨w.heap.size+2,0,none⟩)]:=hρ.tmp 8 rfl;clear hρ hp;unfold OpRun;go_simp;exact hR _ _ (Below.refl _ _) rfl)
 case o5=>(refine oQ rfl ?_;intro ρ w1 R hcon hfn hρ hb hp hR;have e3:ρ (.tmp 3)=.pointer (some ⟨w.heap.size,0,none⟩):=hρ.tmp 3 rfl;clear hρ hp;unfold OpRun;go_simp;exact hR _ _ (Below.refl _ _) rfl)
 case o6=>(refine oQ rfl ?_;intro ρ w1 R hcon hfn hρ hb hp hR;have e17:ρ (.tmp 17)=_:=hp 5 17 rfl rfl;obtain ⟨⟨q0,q1,q2,q3⟩,-⟩:=zA.below hb;clear hρ hp;unfold OpRun;go_simp;exact hR _ _ (Below.refl _ _) ⟨a1,c1,rfl,H1.out.below hb⟩)
 case o7=>(refine oQ rfl ?_;intro ρ w1 R hcon hfn hρ hb hp hR;have e16:ρ (.tmp 16)=_:=hp 4 16 rfl rfl;have f18:=hp 6 18 rfl rfl;clear hρ hp;unfold OpRun;go_simp;(refine (TC2.out _ _ _ _ f18 (HT.out _ hb).1 (HT.out _ hb).2).mono ?_;rintro e wn ⟨rfl,hbn⟩;exact ⟨_,rfl,hR _ _ hbn rfl⟩))
 case o8=>(refine oQ rfl ?_;intro ρ w1 R hcon hfn hρ hb hp hR;have e15:ρ (.tmp 15)=_:=hp 3 15 rfl rfl;clear hρ hp;unfold OpRun;go_simp;exact hR _ _ (Below.refl _ _) rfl)
 case o9=>(refine oQ rfl ?_;intro ρ w1 R hcon hfn hρ hb hp hR;have e19:ρ (.tmp 19)=_:=hp 7 19 rfl rfl;clear hρ hp;unfold OpRun;go_simp;exact hR _ _ (Below.refl _ _) rfl)
 case after=>
  intro u wn hb hf
  have e9:u 9=_:=hf 8 9 (by omega) rfl
  have e10:u 10=_:=hf 9 10 (by omega) rfl
  clear hf
  simp only [putAll,Act.put,List.setIfInBounds_toArray,List.set_cons_zero,List.set_cons_succ,List.drop_succ_cons,List.drop_zero,List.drop_nil]
  rw [e9,e10]
  go_wp2_with fail
  go_ret2
  exact ⟨rfl,below_trans yb0 hb⟩
end Go.Proofs.YtehhegbkahnhgaaGreatDoor
namespace Go.Ulp
open Go.RowKit
def RetBy (w:World) (mode:Int) (Good:Nat→Int×Int→Prop) (en:Ending) (w':World):Prop:= ∃t x,Good t x∧x.1≠0∧x.2≠0∧vX (st x.1 (10^t)) mode=vX (st x.2 (10^t)) mode∧en=.returned (.tuple #[.int .u64 (vX (st x.1 (10^t)) mode),.bool true])∧Below w.heap.size w w'
end Go.Ulp
namespace Go.Proofs.YtehhegbkahnhgaaGreatDoor
open Go.RowKit Go.Ulp
set_option maxHeartbeats 4000000
set_option maxRecDepth 100000
theorem byBounds_any (mode:Int) (m0:0≤mode) (m1:mode≤4) (t0 fn:Nat) (cp:Value) (Good:Nat→Int×Int→Prop) (w:World) (ht0:20≤t0) (ht1:t0≤2000) (hfn: ∀(p:Int) w,Sem.run Tryz.prog (callFunc fn #[.int .i64 p,cp]) w=.ok (.enter fn #[.int .i64 p,cp]) w)
 (hG1: ∀t x,Good t x→x.1.natAbs≤10^(t+1650)∧x.2.natAbs≤10^(t+1650)) (hEnd: ∀t x,Good t x→2900000000≤t→st x.1 (10^t)=st x.2 (10^t)∧x.1≠0∧x.2≠0)
 (hC: ∀(t:Nat) w',20≤t→t≤3000000000→Below w.heap.size w w'→Calls Tryz.prog fn #[.int .i64 (t:Int),cp] w' (RetGI 3 w' Good t)):
 Calls Tryz.prog 42 #[.int .i64 (t0:Int),.int .i64 mode,.func (.func fn) #[] #[cp]] w (RetBy w mode Good):=by
 have HC:=hid hC
 have HG1:=hid hG1
 have HEnd:=hid hEnd
 clear hC hG1 hEnd
 go_enter Tryz.func42,Tryz.ntmps42
 go_wp2_with fail
 go_loopw [0] (fun s0 wr=> ∃t:Nat,s0=.int .i64 (t:Int)∧20≤t∧t≤2900000060∧Below w.heap.size w wr) (fun s0 _=>3000000001-(intOf s0).toNat)
 case atStart=>exact ⟨t0,rfl,ht0,by omega,Below.refl _ _⟩
 case round=>
 obtain ⟨t,rfl,hp1,hp2,yr⟩:=hrel
 have HC1:=hid (fun w' hb=>HC.out t w' hp1 (by omega) hb)
 have hfn1:=hfn (t:Int)
 go_upto_region 2 with ((with_reducible refine (HC1.out _ yr).mono ?_);rintro en w1 ⟨⟨x1,x2⟩,hgd,v1,rfl,⟨a1,c1,b1,d1,rfl,n1,n2⟩,hb1⟩)
 obtain ⟨hs1,hs2⟩:=HG1.out t _ hgd
 have hEn:=hid (HEnd.out t _ hgd)
 simp only at hs1 hs2 n1 n2 hEn
 obtain ⟨E,hE⟩: ∃E,E=3100000000:=⟨_,rfl⟩
 have hlt: ∀y:Int,y.natAbs≤10^(t+1650)→y.natAbs<10^E:=fun y h=>Nat.lt_of_le_of_lt h (Nat.pow_lt_pow_right (by omega) (by omega))
 have TN:=hid (fun (h1:x1≠0) (h2:x2≠0) v w h=>tens_any (x1,x2) h1 h2 t mode E v w h hE (hlt x1 hs1) (hlt x2 hs2) (by omega) m0 m1)
 have HRET:=hid (show ∀w',x1≠0→x2≠0→vX (st x1 (10^t)) mode=vX (st x2 (10^t)) mode→Below w.heap.size w w'→RetBy w mode Good (.returned (.tuple #[.int .u64 (vX (st x1 (10^t)) mode),.bool true])) w' from fun w' h1 h2 h3 h4=>⟨t,(x1,x2),hgd,h1,h2,h3,rfl,h4⟩)
 have hX:2900000000≤t→vX (st x1 (10^t)) mode=vX (st x2 (10^t)) mode∧x1≠0∧x2≠0:=fun h=>by
  obtain ⟨e1,e2,e3⟩:=hEn.out h
  exact ⟨by rw [e1],e2,e3⟩
 have HX:=hid hX
 have S1:=hid (fun v w h=>zsignD v x1 w h)
 have S2:=hid (fun v w h=>zsignD v x2 w h)
 clear hX hEn hs1 hs2 hlt hgd hfn1 hE
 simp only at TN
 generalize vX (st x1 (10^t)) mode=X1 at *
 generalize vX (st x2 (10^t)) mode=X2 at *
 refine wp_worldZ (fun WW=>Below w.heap.size w WW∧BC 63 WW w1.heap.size (zneg x1) (.slice a1 (zl x1).length c1) (zneg x2) (.slice b1 (zl x2).length d1)∧Nz 3 WW a1 c1 (zl x1)∧Nz 3 WW b1 d1 (zl x2)) ⟨below_trans (below_trans yr hb1) (below_alloc _ _),BC.made rfl,n1.below (below_alloc _ _),n2.below (below_alloc _ _)⟩ ?_
 obtain ⟨g8,hg8⟩: ∃g,g=w1.heap.size:=⟨_,rfl⟩
 rw [←hg8]
 clear hb1 yr n1 n2 hg8 HC1
 intro W2 ⟨yr,z8,n1,n2⟩
 have wP:t<2900000000→IntKind.i64.wrap ((t:Int)+60)=((t+60:Nat):Int):=fun h=>by rw [IntWalk.i64_in _ (by omega)];omega
 obtain ⟨⟨i0,i1,i2,i3⟩,-⟩:=id z8
 have D1:ZD 3 W2 x1 (.agg #[.bool (zneg x1),.slice a1 (zl x1).length c1]):=⟨a1,c1,rfl,n1⟩
 have D2:ZD 3 W2 x2 (.agg #[.bool (zneg x2),.slice b1 (zl x2).length d1]):=⟨b1,d1,rfl,n2⟩
 by_cases h1:x1=0
 ·have hpn:t<2900000000:=Nat.lt_of_not_le fun h=>(HX.out h).2.1 h1
  have wP2:=wP hpn
  have e1:cmpI x1 0=0:=(cmpI_eq_zero _ _).2 h1
  rw [e1] at S1
  clear wP h1 e1
  go_wp2_with (go_at_call 88;(with_reducible refine (S1.out _ _ D1).mono ?_);rintro en w3 ⟨rfl,hb3⟩)
  go_roundw
  case rel=>exact ⟨t+60,rfl,by omega,by omega,below_trans yr hb3⟩
  case measure=>simp [intOf];omega
 ·obtain ⟨k1,hk1⟩: ∃k,k=cmpI x1 0:=⟨_,rfl⟩
  have hz1:(k1 !=0)=true:=bne_iff_ne.2 (fun h=>h1 ((cmpI_eq_zero _ _).1 (by rw [←hk1];exact h)))
  rw [←hk1] at S1
  clear hk1
  by_cases h2:x2=0
  ·have hpn:t<2900000000:=Nat.lt_of_not_le fun h=>(HX.out h).2.2 h2
   have wP2:=wP hpn
   have e2:cmpI x2 0=0:=(cmpI_eq_zero _ _).2 h2
   rw [e2] at S2
   clear wP h2 e2 h1
   go_wp2_with (first
    |(go_at_call 88;(with_reducible refine (S1.out _ _ D1).mono ?_);rintro en w3 ⟨rfl,hb3⟩;obtain ⟨⟨m0',m1',m2',m3'⟩,-⟩:=z8.below hb3)
    |(go_at_call 88;(with_reducible refine (S2.out _ _ (D2.below hb3)).mono ?_);rintro en w4 ⟨rfl,hb4⟩))
   go_roundw
   case rel=>exact ⟨t+60,rfl,by omega,by omega,below_trans (below_trans yr hb3) hb4⟩
   case measure=>simp [intOf];omega
  ·obtain ⟨k2,hk2⟩: ∃k,k=cmpI x2 0:=⟨_,rfl⟩
   have hz2:(k2 !=0)=true:=bne_iff_ne.2 (fun h=>h2 ((cmpI_eq_zero _ _).1 (by rw [←hk2];exact h)))
   rw [←hk2] at S2
   clear hk2
   have TN2:=hid (TN.out h1 h2)
   have HRT2:=hid (fun w' h3 h4=>HRET.out w' h1 h2 h3 h4)
   clear h1 h2 HRET TN
   go_upto_region 3 with (first
    |(go_at_call 88;(with_reducible refine (S1.out _ _ D1).mono ?_);rintro en w3 ⟨rfl,hb3⟩;obtain ⟨⟨m0',m1',m2',m3'⟩,-⟩:=z8.below hb3)
    |(go_at_call 88;(with_reducible refine (S2.out _ _ (D2.below hb3)).mono ?_);rintro en w4 ⟨rfl,hb4⟩;obtain ⟨⟨q0',q1',q2',q3'⟩,-⟩:=(z8.below hb3).below hb4))
   have HP:=hid (show PI 3 w4 (x1,x2) (.agg #[.bool (zneg x1),.slice a1 (zl x1).length c1,.bool (zneg x2),.slice b1 (zl x2).length d1]) from ⟨a1,c1,b1,d1,rfl,(n1.below hb3).below hb4,(n2.below hb3).below hb4⟩)
   have yb4:=below_trans (below_trans yr hb3) hb4
   clear i0 i1 i2 i3 m0' m1' m2' m3' z8 n1 n2 hb3 hb4 yr D1 D2
   by_cases hEq:X1=X2
   ·have hb1:(X1==X2)=true:=beq_iff_eq.2 hEq
    rw [hb1] at TN2
    have HX3:=hid hEq
    clear hEq wP hb1
    go_wp2_with (go_at_call 89;(with_reducible refine (TN2.out _ _ HP.out).mono ?_);rintro en w5 ⟨rfl,hb5⟩)
    go_ret2
    exact HRT2.out _ HX3.out (below_trans yb4 hb5)
   ·have hb1:(X1==X2)=false:=beq_eq_false_iff_ne.2 hEq
    have hpn:t<2900000000:=Nat.lt_of_not_le fun h=>hEq (HX.out h).1
    have wP2:=wP hpn
    rw [hb1] at TN2
    clear hEq wP hb1
    go_wp2_with (go_at_call 89;(with_reducible refine (TN2.out _ _ HP.out).mono ?_);rintro en w5 ⟨rfl,hb5⟩)
    go_roundw
    case rel=>exact ⟨t+60,rfl,by omega,by omega,below_trans yb4 hb5⟩
    case measure=>simp [intOf];omega
end Go.Proofs.YtehhegbkahnhgaaGreatDoor
