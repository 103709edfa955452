/- WantedSays: what the proof leans on, part 23 (Tx13 Tx14 Hx0). -/
import Derived.Laws.Runes
import Derived.Test.YtfphmlmgjhebjaaGreatDoorKWantedSays2
import Derived.Test.YtfphmlmgjhebjaaGreatDoorKWantedSays22
set_option linter.unusedVariables false
set_option linter.unusedSimpArgs false
namespace Go.Ulp
open Go.RowKit
def scZ (x:Int) (k:Nat) (pd mode:Int):Nat:=if (fv x).1=0 then 0 else if 10^(k+1)≤scQ x k pd mode then scQ x k pd mode/10 else scQ x k pd mode
theorem scS_pad (x:Int) (k:Nat) (pd mode:Int) (hp:(fv x).1≠0→IsDec (dA (fv x)) (dB (fv x)) pd):padz (k+1) (decD (scZ x k pd mode))=scS x k pd mode∧(scS x k pd mode).length=k+1:=by
 unfold scZ scS
 by_cases hz:(fv x).1=0
 ·rw [if_pos hz,if_pos hz]
  exact ⟨padz_dec_zero k,List.length_replicate ..⟩
 ·rw [if_neg hz,if_neg hz]
  obtain ⟨q1,q2⟩:=sciQ_bd (negB x) (dA (fv x)) (dB (fv x)) k pd mode (dB_pos _) (hp hz)
  have h1:=sciD_len (scQ x k pd mode) k q1 q2
  refine ⟨?_,h1⟩
  have e:decD (if 10^(k+1)≤scQ x k pd mode then scQ x k pd mode/10 else scQ x k pd mode)=sciD (scQ x k pd mode) k:=by
   unfold sciD;split<;>rfl
  rw [e,padz_long _ _ (by omega)]
theorem fv_zero_iff (x:Int):(fv x).1=0↔mantOf x=0:=by
 unfold fv
 rw [nrm_zero_iff]
 unfold sg
 split<;>omega
end Go.Ulp
namespace Go.Proofs.YtfphmlmgjhebjaaGreatDoor
open Go.RowKit Go.Ulp
set_option maxHeartbeats 4000000
set_option maxRecDepth 100000
theorem isZeroT_any (x:Int) (h0:0≤x) (h1:x<18446744073709551616) (hv:hasVal x=true) (w:World):
 Calls Tryz.prog 50 #[.int .u64 x] w fun e w'=>e=.returned (.bool (decide ((fv x).1=0)))∧w=w':=by
 have CL:=hid (fun w=>classOf_any x h0 h1 w)
 have HC:=hid (show (classOf x==1)=decide ((fv x).1=0) by
  have a:=class_val x h0 h1
  unfold hasVal at hv
  unfold absOf at a
  have hv:=of_decide_eq_true hv
  rw [Bool.eq_iff_iff,beq_iff_eq,decide_eq_true_eq,fv_zero_iff]
  unfold classOf mantOf
  have:0≤fracOf x:=by unfold fracOf;omega
  have he:expOf x≠2047:=by unfold expOf;omega
  rw [if_neg he]
  split
  ·omega
  ·split<;>omega)
 generalize classOf x=c at *
 generalize decide ((fv x).1=0)=b at *
 go_enter Tryz.func50,Tryz.ntmps50
 go_wp2_with (go_at_call 104;(with_reducible refine (CL.out _).mono ?_);rintro en w1 ⟨rfl,rfl⟩)
 go_ret
 exact ⟨ret_bool HC.out,rfl⟩
theorem sciText_any (x mode pd:Int) (k d:Nat) (hd:d=k+1) (h0:0≤x) (h1:x<18446744073709551616) (hv:hasVal x=true) (m0:0≤mode) (m1:mode≤4) (hk:k<800) (hp:(fv x).1≠0→IsDec (dA (fv x)) (dB (fv x)) pd) (hpb: -1200≤pd∧pd≤1200) (w:World):
 Calls Tryz.prog 137 #[.int .u64 x,.int .i64 (d:Int),.int .i64 mode] w fun e w'=>e=.returned (.tuple #[.string (bsOf (scT x k pd mode)),.bool (scC x k pd)])∧Below w.heap.size w w':=by
 obtain ⟨d1,d2,d3⟩:=fv_small x h0 h1
 obtain ⟨-,d4,-⟩:=fv_bd x h0 h1
 obtain ⟨e1,e2⟩:=scS_pad x k pd mode hp
 rw [←hd] at e1 e2
 have hSC:scT x k pd mode=dsh (negB x) (ptd (scS x k pd mode) k++101::pwrT (scP x k pd mode)):=rfl
 have QV:=hid (fun w=>qval_any x h0 h1 w)
 have IZ:=hid (fun w=>isZeroT_any x h0 h1 hv w)
 have MI:=hid (fun w=>minusN_any x h0 h1 w)
 have DC:=hid (fun v w h (hz:(fv x).1≠0)=>decade_any v (fv x) pd w h hz (hp hz) (by omega))
 have TT:=hid (fun v w h=>tenTimes_any v (fv x) 1200 1100 ((k:Int)-pd) w h (by omega) (by omega) (by omega))
 have hZq:(fv x).1=0→scZ x k pd mode=0∧scP x k pd mode=0∧scC x k pd=false:=fun hz=>by
  unfold scZ scP scC;rw [if_pos hz,if_pos hz,if_pos hz];exact ⟨rfl,rfl,rfl⟩
 have hZn:(fv x).1≠0→scZ x k pd mode=(if 10^d≤scQ x k pd mode then scQ x k pd mode/10 else scQ x k pd mode)∧scP x k pd mode=(if 10^d≤scQ x k pd mode then pd+1 else pd)∧scQ x k pd mode≤10^d:=fun hz=>by
  unfold scZ scP sciP;rw [if_neg hz,if_neg hz,hd]
  exact ⟨rfl,rfl,(sciQ_bd (negB x) (dA (fv x)) (dB (fv x)) k pd mode (dB_pos _) (hp hz)).2⟩
 have RM:=hid (show (fv x).1≠0→ ∀(a b:Nat),0<b→a*(dB (fv x)*tnN (-((k:Int)-pd)))=dA (fv x)*tnN ((k:Int)-pd)*b→(zl (a:Int)).length≤300000→(zl (b:Int)).length≤300000→ ∀v u w,ZD 3 w (a:Int) v→ZD 3 w (b:Int) u→Calls Tryz.prog 197 #[v,u,.bool (negB x),.int .i64 mode] w (RetZB 3 w (scQ x k pd mode:Int) (scC x k pd)) from fun hz a b hb hab la lb v u w hv hu=>by
  obtain ⟨e1,e2⟩:=rtN_eq (negB x) mode hb (Nat.mul_pos (dB_pos _) (tnN_pos _)) hab
  have h9:=ratioMode_any v u a b (negB x) mode w hv hu (by omega) (by omega) hb m0 m1
  rw [e1,e2] at h9
  unfold scQ sciQ scC sciC
  rwa [if_neg hz])
 generalize fv x=D at *
 obtain ⟨q,hq⟩: ∃q,q=scQ x k pd mode:=⟨_,rfl⟩
 obtain ⟨Z,hZ⟩: ∃q,q=scZ x k pd mode:=⟨_,rfl⟩
 obtain ⟨P,hP⟩: ∃q,q=scP x k pd mode:=⟨_,rfl⟩
 obtain ⟨C,hC⟩: ∃q,q=scC x k pd:=⟨_,rfl⟩
 obtain ⟨S,hS⟩: ∃q,q=scS x k pd mode:=⟨_,rfl⟩
 rw [←hq,←hC] at RM
 rw [←hZ,←hP,←hC] at hZq
 rw [←hZ,←hP,←hq] at hZn
 rw [←hZ,←hS] at e1
 rw [←hS] at e2
 rw [←hS,←hP] at hSC
 rw [←hC]
 have HZq:=hid hZq
 have HZn:=hid hZn
 obtain ⟨T,hT⟩: ∃T,T=scT x k pd mode:=⟨_,rfl⟩
 rw [←hT] at hSC ⊢
 have HE1:=hid e1
 have HSC:=hid hSC
 have DA:=hid (show ∀L:List UInt8,L.length≤1000000→ ∀w,Calls Tryz.prog 198 #[.string (bsOf L),.int .u64 x] w fun e w'=>e=.returned (.string (bsOf (dsh (negB x) L)))∧w=w' from fun L hL w=>dashed_any L x h0 h1 (by omega) w)
 generalize negB x=ng at *
 have hPb: -1300≤P∧P≤1300:=by
  by_cases hz:D.1=0
  ·have:=(hZq hz).2.1;omega
  ·have:=(hZn hz).2.1
   rw [this];split<;>omega
 have hqb:D.1≠0→q≤10^d:=fun hz=>(hZn hz).2.2
 have lten:=zl_len_ten d
 have hZb:Z≤10^d:=by
  by_cases hz:D.1=0
  ·have:=(hZq hz).1
   rw [this];exact Nat.zero_le _
  ·have h8:=(hZn hz).1
   have h9:=hqb hz
   have h10:=Nat.div_le_self q 10
   rw [h8];split<;>omega
 have lZ:(zl (Z:Int)).length≤1000:=Nat.le_trans (zl_len_le (show (Z:Int).natAbs≤(tenZ d).natAbs by unfold tenZ;rw [Int.natAbs_natCast,Int.natAbs_natCast];exact hZb)) (by omega)
 have hdk:(d:Int)-1=(k:Int):=by omega
 have hd8:d≤800:=by omega
 have hd0:0<d:=by omega
 have HD:=hid hd
 have hSl:=e2
 have HSl:=hid hSl
 clear hd e2 hSl
 obtain ⟨zb,hzb⟩: ∃z,z=decide (D.1=0):=⟨_,rfl⟩
 rw [←hzb] at IZ
 have HZB:=hid hzb
 clear hzb
 clear d1 d2 d3 d4 hZq hZn hS hC hP hZ hq hT e1 hSC hp hv
 go_enter Tryz.func137,Tryz.ntmps137
 go_upto_region 2 with (go_at_call 54;(with_reducible refine (QV.out _).mono ?_);rintro en w1 ⟨v,rfl,⟨X,n,ao,cap,rfl,hNX,hDX,hX,hn⟩,hb1⟩)
 have DC2:=hid (show ∀w,Nz 3 w ao cap (zl X)→D.1≠0→Calls Tryz.prog 200 #[.agg #[.bool (zneg X),.slice ao (zl X).length cap,.int .i64 (n:Int)]] w fun e w'=>e=.returned (.int .i64 pd)∧Below w.heap.size w w' from fun w h hz=>DC.out _ w ⟨X,n,ao,cap,rfl,h,hDX,hX,hn⟩ hz)
 have TT2:=hid (show ∀w,Nz 3 w ao cap (zl X)→Calls Tryz.prog 196 #[.agg #[.bool (zneg X),.slice ao (zl X).length cap,.int .i64 (n:Int)],.int .i64 ((k:Int)-pd)] w (RetTT 3 w D ((k:Int)-pd)) from fun w h=>TT.out _ w ⟨X,n,ao,cap,rfl,h,hDX,hX,hn⟩)
 go_upto_region 3 with fail
 refine wp_worldZ (fun WW=>Below w.heap.size w WW∧QL 33 WW w1.heap.size (zneg X) (.slice ao (zl X).length cap) (n:Int)∧Nz 3 WW ao cap (zl X)∧ZV 31 3 WW (w1.heap.size+1) 0) ⟨below_trans (below_trans hb1 (below_alloc _ _)) (below_alloc _ _),(QL.made rfl).alloc _,(hNX.below (below_alloc _ _)).below (below_alloc _ _),⟨none,0,ZL.made (by simp),Nz.nil' none 0 (by decide)⟩⟩ ?_
 intro W3 ⟨y3,z8,hN3,z9⟩
 obtain ⟨g9,hg9⟩: ∃g,g=w1.heap.size+1:=⟨_,rfl⟩
 obtain ⟨g8,hg8⟩: ∃g,g=w1.heap.size:=⟨_,rfl⟩
 have b9:w.heap.size≤g9:=by have:=hb1.size;omega
 rw [←hg9] at z9 ⊢
 rw [←hg8] at z8 ⊢
 have H8:=hid z8
 have H9:=hid z9
 have HN:=hid hN3
 clear hNX hb1 hg8 hg9 z8 z9 hN3 QV hDX hX DC TT
 go_upto_if 21 with (go_at_call 50;(with_reducible refine (IZ.out _).mono ?_);rintro en w2 ⟨rfl,rfl⟩)
 go_cut [10,11] (fun s10 s11 wx=>s10=.int .i64 P∧s11=.bool C∧ZV 31 3 wx g9 (Z:Int)∧Below w.heap.size w wx)
 case first=>as_aux_lemma=>
  cases zb
  case true=>
   have hz:D.1=0:=of_decide_eq_true HZB.out.symm
   obtain ⟨k1,k2,k3⟩:=HZq.out hz
   have K1:=hid k1
   have K2:=hid k2
   have K3:=hid k3
   clear HZq HZn k1 k2 k3 hqb RM DC2 hz
   go_wp2_with fail
   go_meet
   exact ⟨by rw [K2.out],by rw [K3.out],by rw [K1.out];exact H9.out,y3⟩
  case false=>
   have hz:D.1≠0:=of_decide_eq_false HZB.out.symm
   obtain ⟨k1,k2,k3⟩:=HZn.out hz
   have K1:=hid k1
   have K2:=hid k2
   have K3:=hid k3
   have RM2:=hid (RM.out hz)
   have DC3:=hid (fun w h=>DC2.out w h hz)
   have hwk:IntKind.i64.wrap ((k:Int)-pd)=(k:Int)-pd:=IntWalk.i64_in _ (by omega)
   have hwk2:IntKind.i64.wrap (k:Int)=(k:Int):=IntWalk.i64_in _ (by omega)
   obtain ⟨⟨j0,j1,-⟩,j2,-⟩:=id H8.out
   have hq9:=hqb hz
   have lq:(zl (q:Int)).length≤1000:=Nat.le_trans (zl_len_le (show (q:Int).natAbs≤(tenZ d).natAbs by unfold tenZ;rw [Int.natAbs_natCast,Int.natAbs_natCast];exact hq9)) (by omega)
   clear HZq HZn k1 k2 k3 hqb RM DC2 hz hq9
   go_upto_region 6 with (first
    |(go_at_call 200;(with_reducible refine (DC3.out _ HN.out).mono ?_);rintro en w4 ⟨rfl,hb4⟩;obtain ⟨⟨i0,i1,-⟩,i2,-⟩:=H8.out.below hb4)
    |(go_at_call 196;(with_reducible refine (TT2.out _ (HN.out.below hb4)).mono ?_);rintro en w5 ⟨a,b,v2,rfl,⟨a8,c8,a9,c9,rfl,hNa,hNb⟩,hb0,hab,la,lb,hb5⟩))
   have hzz:=zv_made2 (tz:=31) hNa hNb
   refine wp_worldZ (fun WW=>Below w5.heap.size w5 WW∧ZV 31 3 WW w5.heap.size (a:Int)∧ZV 31 3 WW (w5.heap.size+1) (b:Int)) hzz ?_
   intro W5 ⟨y6,z12,z13⟩
   obtain ⟨g13,hg13⟩: ∃g,g=w5.heap.size+1:=⟨_,rfl⟩
   obtain ⟨g12,hg12⟩: ∃g,g=w5.heap.size:=⟨_,rfl⟩
   have y45:=below_trans hb4 hb5
   have y7:=below_trans (below_trans y3 y45) y6
   have z9:=(H9.out.below y45).below y6
   rw [←hg13] at z13 ⊢
   rw [←hg12] at z12 ⊢
   have RM3:=hid (RM2.out a b hb0 hab la lb)
   clear hg12 hg13 hzz hNa hNb hb4 hb5 y45 y6 hab la lb hb0 RM2 TT2 DC3 j0 j1 j2 H8 H9 HN i0 i1 i2
   refine wp_region_growL 9 8 [34,35,36,37,38,39,33,40,41] [Fact.z 3 ((a:Int)),Fact.z 3 ((b:Int)),Fact.is (.int .u64 x),Fact.is (.bool ng),Fact.is (.int .i64 mode),Fact.zb 3 (q:Int) C,Fact.zb 3 (q:Int) C,Fact.z 3 (q:Int),Fact.is (.bool C)] [] (by kernel_rfl) (by kernel_rfl) rfl ⟨?o0,?o1,?o2,?o3,?o4,?o5,?o6,?o7,?o8,trivial⟩ ?late (fun d _ _ _ _ h=>by cases d<;>exact h) ?after
   case o0=>(refine oQF rfl ?_;intro ρ w1 R hcon hfn hρ hb hp hR;have e12:ρ (.tmp 12)=.pointer (some ⟨g12,0,none⟩):=hρ.tmp 12 rfl;obtain ⟨ya9,yc9,yj9,yn9⟩:=ZV.below z12 hb;obtain ⟨j90,j91,-⟩:=yj9;replace hR:=fun v w2 h1 h2=>hR v w2 h1 h2 (fun h=>absurd h (by decide));clear hρ hp;unfold OpRun;go_simp;exact hR _ _ (Below.refl _ _) ⟨ya9,yc9,rfl,yn9⟩)
   case o1=>(refine oQF rfl ?_;intro ρ w1 R hcon hfn hρ hb hp hR;have e13:ρ (.tmp 13)=.pointer (some ⟨g13,0,none⟩):=hρ.tmp 13 rfl;obtain ⟨ya9,yc9,yj9,yn9⟩:=ZV.below z13 hb;obtain ⟨j90,j91,-⟩:=yj9;replace hR:=fun v w2 h1 h2=>hR v w2 h1 h2 (fun h=>absurd h (by decide));clear hρ hp;unfold OpRun;go_simp;exact hR _ _ (Below.refl _ _) ⟨ya9,yc9,rfl,yn9⟩)
   case o2=>(refine oQF rfl ?_;intro ρ w1 R hcon hfn hρ hb hp hR;have e0:ρ (.tmp 0)=.int .u64 x:=hρ.tmp 0 rfl;replace hR:=fun v w2 h1 h2=>hR v w2 h1 h2 (fun h=>absurd h (by decide));clear hρ hp;unfold OpRun;go_simp;exact hR _ _ (Below.refl _ _) rfl)
   case o3=>(refine oQF rfl ?_;intro ρ w1 R hcon hfn hρ hb hp hR;have e36:ρ (.tmp 36)=_:=hp 2 36 rfl rfl;replace hR:=fun v w2 h1 h2=>hR v w2 h1 h2 (fun h=>absurd h (by decide));clear hρ hp;unfold OpRun;go_simp;(refine (MI.out _).mono ?_;rintro e wn ⟨rfl,rfl⟩;exact ⟨_,rfl,hR _ _ (Below.refl _ _) rfl⟩))
   case o4=>(refine oQF rfl ?_;intro ρ w1 R hcon hfn hρ hb hp hR;have e2:ρ (.tmp 2)=.int .i64 mode:=hρ.tmp 2 rfl;replace hR:=fun v w2 h1 h2=>hR v w2 h1 h2 (fun h=>absurd h (by decide));clear hρ hp;unfold OpRun;go_simp;exact hR _ _ (Below.refl _ _) rfl)
   case o5=>(refine oQF rfl ?_;intro ρ w1 R hcon hfn hρ hb hp hR;have f34:=hp 0 34 rfl rfl;have f35:=hp 1 35 rfl rfl;have e37:ρ (.tmp 37)=_:=hp 3 37 rfl rfl;have e38:ρ (.tmp 38)=_:=hp 4 38 rfl rfl;replace hR:=fun v w2 h1 h2=>hR v w2 h1 h2 (fun h=>absurd h (by decide));clear hρ hp;unfold OpRun;go_simp;(refine (RM3.out _ _ _ f34 f35).mono ?_;rintro e wn ⟨v9,rfl,hz9,hbn⟩;exact ⟨_,rfl,hR _ _ hbn ⟨v9,rfl,hz9⟩⟩))
   case o6=>(refine oQF rfl ?_;intro ρ w1 R hcon hfn hρ hb hp hR;have f39:=hp 5 39 rfl rfl;replace hR:=fun v w2 h1 h2=>hR v w2 h1 h2 (fun h=>absurd h (by decide));clear hρ hp;unfold OpRun;go_simp;exact hR _ _ (Below.refl _ _) f39)
   case o7=>(refine oQF rfl ?_;intro ρ w1 R hcon hfn hρ hb hp hR;have f33:=hp 6 33 rfl rfl;obtain ⟨v9,e33,hz9⟩:=f33;replace hR:=fun v w2 h1 h2=>hR v w2 h1 h2 (fun h=>absurd h (by decide));clear hρ hp;unfold OpRun;go_simp;exact hR _ _ (Below.refl _ _) hz9)
   case o8=>(refine oQF rfl ?_;intro ρ w1 R hcon hfn hρ hb hp hR;have f33:=hp 6 33 rfl rfl;obtain ⟨v9,e33,hz9⟩:=f33;replace hR:=fun v w2 h1 h2=>hR v w2 h1 h2 (fun h=>absurd h (by decide));clear hρ hp;unfold OpRun;go_simp;exact hR _ _ (Below.refl _ _) rfl)
   case late=>
    intro o ho
    simp only [List.getElem?_cons_succ,List.getElem?_cons_zero,Option.some.injEq] at ho
    subst ho
    refine ⟨rfl,?_⟩
    intro ρ w1 hρ hb hp
    have f33:=hp 6 33 rfl rfl
    obtain ⟨v9,e33,hz9⟩:=f33
    refine ⟨_,?_,rfl⟩
    intro w2
    have hcon:=hρ.con
    go_simp
    try rfl
   case after=>
    intro u wn hb hf hd
    have f40:=hf 7 40 (by omega) rfl
    have f41:=hf 8 41 (by omega) rfl
    clear hf hd
    simp only [putAll,Act.put,List.setIfInBounds_toArray,List.set_cons_zero,List.set_cons_succ,List.drop_succ_cons,List.drop_zero,List.drop_nil]
    have e41:u 41=.bool C:=f41
    rw [e41]
    clear e41 f41
    obtain ⟨a40,c40,e40,n40⟩:=f40
    rw [e40]
    clear e40
    have y8:=below_trans y7 hb
    obtain ⟨x9,k9,zl9,-⟩:=z9.below hb
    have zst:=zv_store1 (by decide) y8 b9 zl9 n40
    obtain ⟨k0,k1,kf0,kf1,-⟩:=id zl9
    go_upto_region 7 with fail
    clear k0 k1 kf0 kf1 zl9 n40 hb y7 y8
    refine wp_worldZ (fun WW=>Below w.heap.size w WW∧ZV 31 3 WW g9 (q:Int)) zst ?_
    clear zst z9 z12 z13
    intro W6 ⟨y8,z9⟩
    obtain ⟨ov,hov⟩: ∃ov,ov=decide (10^d≤q):=⟨_,rfl⟩
    have HOV:=hid (show decide (0≤cmpI (q:Int) (tenZ d))=ov by
     rw [hov,decide_eq_decide]
     unfold tenZ
     unfold cmpI
     split
     ·omega
     ·split<;>omega)
    have HOV2:=hid hov
    clear hov
    refine wp_region_grow 5 [42,43,44,45,46] [Fact.z 3 ((q:Int)),Fact.is (.int .i64 (d:Int)),Fact.z 3 (tenZ d),Fact.is (.int .i64 (cmpI ((q:Int)) (tenZ d))),Fact.is (.bool ov)] (by kernel_rfl) (by kernel_rfl) ⟨?o0,?o1,?o2,?o3,?o4,trivial⟩ ?after
    case o0=>(refine oQ rfl ?_;intro ρ w1 R hcon hfn hρ hb hp hR;have e9:ρ (.tmp 9)=.pointer (some ⟨g9,0,none⟩):=hρ.tmp 9 rfl;obtain ⟨ya9,yc9,yj9,yn9⟩:=ZV.below z9 hb;obtain ⟨j90,j91,-⟩:=yj9;clear hρ hp;unfold OpRun;go_simp;exact hR _ _ (Below.refl _ _) ⟨ya9,yc9,rfl,yn9⟩)
    case o1=>(refine oQ rfl ?_;intro ρ w1 R hcon hfn hρ hb hp hR;have e1:ρ (.tmp 1)=.int .i64 (d:Int):=hρ.tmp 1 rfl;clear hρ hp;unfold OpRun;go_simp;exact hR _ _ (Below.refl _ _) rfl)
    case o2=>(refine oQ rfl ?_;intro ρ w1 R hcon hfn hρ hb hp hR;have e43:ρ (.tmp 43)=_:=hp 1 43 rfl rfl;clear hρ hp;unfold OpRun;go_simp;(refine (zTenD d _ (by first|assumption|omega)).mono ?_;rintro e wn ⟨v9,rfl,hz9,hbn⟩;exact ⟨_,rfl,hR _ _ hbn hz9⟩))
    case o3=>(refine oQ rfl ?_;intro ρ w1 R hcon hfn hρ hb hp hR;have f42:=hp 0 42 rfl rfl;have f44:=hp 2 44 rfl rfl;clear hρ hp;unfold OpRun;go_simp;(refine (zcmpD _ _ _ _ _ f42 f44).mono ?_;rintro e wn ⟨rfl,hbn⟩;exact ⟨_,rfl,hR _ _ hbn rfl⟩))
    case o4=>(refine oQ rfl ?_;intro ρ w1 R hcon hfn hρ hb hp hR;have e45:ρ (.tmp 45)=_:=hp 3 45 rfl rfl;have hx9:=HOV.out;clear hρ hp;unfold OpRun;go_simp;exact hR _ _ (Below.refl _ _) rfl)
    case after=>
     intro u wn hb hf
     have e46:u 46=_:=hf 4 46 (by omega) rfl
     clear hf
     simp only [putAll,Act.put,List.setIfInBounds_toArray,List.set_cons_zero,List.set_cons_succ,List.drop_succ_cons,List.drop_zero,List.drop_nil]
     rw [e46]
     have y9:=below_trans y8 hb
     have z9a:=z9.below hb
     clear z9 y8 hb
     cases ov
     ·have hn10: ¬10^d≤q:=of_decide_eq_false HOV2.out.symm
      have K4:=hid (show Z=q by rw [K1.out,if_neg hn10])
      have K5:=hid (show P=pd by rw [K2.out,if_neg hn10])
      clear HOV HOV2 K1 K2 hn10
      go_wp2_with fail
      go_meet
      exact ⟨by rw [K5.out],rfl,by rw [K4.out];exact z9a,y9⟩
     ·have hn10:10^d≤q:=of_decide_eq_true HOV2.out.symm
      have K4:=hid (show (q:Int)/10=(Z:Int) by rw [K1.out,if_pos hn10];omega)
      have K5:=hid (show P=pd+1 by rw [K2.out,if_pos hn10])
      have l10:(zl 10).length≤1000:=by decide
      have hw1:IntKind.i64.wrap (pd+1)=pd+1:=IntWalk.i64_in _ (by omega)
      clear HOV HOV2 K1 K2 hn10
      go_upto_region 8 with fail
      obtain ⟨W7,hW7⟩: ∃W,W=wn:=⟨_,rfl⟩
      subst hW7
      refine wp_region_growL 6 5 [48,49,50,47,51,52] [Fact.z 3 ((q:Int)),Fact.z 3 (10),Fact.z2 3 ((Z:Int)) ((q:Int)%10),Fact.z2 3 ((Z:Int)) ((q:Int)%10),Fact.z 3 ((Z:Int)),Fact.z 3 ((q:Int)%10)] [] (by kernel_rfl) (by kernel_rfl) rfl ⟨?o0,?o1,?o2,?o3,?o4,?o5,trivial⟩ ?late (fun d _ _ _ _ h=>by cases d<;>exact h) ?after
      case o0=>(refine oQF rfl ?_;intro ρ w1 R hcon hfn hρ hb hp hR;have e9:ρ (.tmp 9)=.pointer (some ⟨g9,0,none⟩):=hρ.tmp 9 rfl;obtain ⟨ya9,yc9,yj9,yn9⟩:=ZV.below z9a hb;obtain ⟨j90,j91,-⟩:=yj9;replace hR:=fun v w2 h1 h2=>hR v w2 h1 h2 (fun h=>absurd h (by decide));clear hρ hp;unfold OpRun;go_simp;exact hR _ _ (Below.refl _ _) ⟨ya9,yc9,rfl,yn9⟩)
      case o1=>(refine oQF rfl ?_;intro ρ w1 R hcon hfn hρ hb hp hR;replace hR:=fun v w2 h1 h2=>hR v w2 h1 h2 (fun h=>absurd h (by decide));clear hρ hp;unfold OpRun;go_simp;(refine (zND _ (by omega) (by omega) _).mono ?_;rintro e wn ⟨v9,rfl,hz9,hbn⟩;exact ⟨_,rfl,hR _ _ hbn hz9⟩))
      case o2=>(refine oQF rfl ?_;intro ρ w1 R hcon hfn hρ hb hp hR;have f48:=hp 0 48 rfl rfl;have f49:=hp 1 49 rfl rfl;replace hR:=fun v w2 h1 h2=>hR v w2 h1 h2 (fun h=>absurd h (by decide));clear hρ hp;unfold OpRun;go_simp;(refine (zdivD _ _ _ _ _ f48 f49 (by first|assumption|omega) (by first|assumption|omega) (by first|assumption|omega)).mono ?_;rintro e wn ⟨v9,rfl,hz9,hbn⟩;exact ⟨_,rfl,hR _ _ hbn (by rw [←K4.out,←(rfl:(q:Int)%10=(q:Int)%10)];exact hz9)⟩))
      case o3=>(refine oQF rfl ?_;intro ρ w1 R hcon hfn hρ hb hp hR;have f50:=hp 2 50 rfl rfl;replace hR:=fun v w2 h1 h2=>hR v w2 h1 h2 (fun h=>absurd h (by decide));clear hρ hp;unfold OpRun;go_simp;exact hR _ _ (Below.refl _ _) f50)
      case o4=>(refine oQF rfl ?_;intro ρ w1 R hcon hfn hρ hb hp hR;have f47:=hp 3 47 rfl rfl;replace hR:=fun v w2 h1 h2=>hR v w2 h1 h2 (fun h=>absurd h (by decide));clear hρ hp;unfold OpRun;go_simp;(obtain ⟨a97,b97,e97,h97,k97⟩:=ZD2.parts f47;rw [e97];exact hR _ _ (Below.refl _ _) h97))
      case o5=>(refine oQF rfl ?_;intro ρ w1 R hcon hfn hρ hb hp hR;have f47:=hp 3 47 rfl rfl;replace hR:=fun v w2 h1 h2=>hR v w2 h1 h2 (fun h=>absurd h (by decide));clear hρ hp;unfold OpRun;go_simp;(obtain ⟨a97,b97,e97,h97,k97⟩:=ZD2.parts f47;rw [e97];exact hR _ _ (Below.refl _ _) k97))
      case late=>
       intro o ho
       simp only [List.getElem?_cons_succ,List.getElem?_cons_zero,Option.some.injEq] at ho
       subst ho
       refine ⟨rfl,?_⟩
       intro ρ w1 hρ hb hp
       have f47:=hp 3 47 rfl rfl
       obtain ⟨a97,b97,e97,h97,k97⟩:=ZD2.parts f47
       refine ⟨_,?_,k97⟩
       intro w2
       have hcon:=hρ.con
       go_simp
       try rfl
      case after=>
       intro u wn hb hf hd
       have f51:=hf 4 51 (by omega) rfl
       clear hf hd
       simp only [putAll,Act.put,List.setIfInBounds_toArray,List.set_cons_zero,List.set_cons_succ,List.drop_succ_cons,List.drop_zero,List.drop_nil]
       obtain ⟨a51,c51,e51,n51⟩:=f51
       rw [e51]
       clear e51
       have y10:=below_trans y9 hb
       obtain ⟨x9,k9,zl9,-⟩:=z9a.below hb
       have zst:=zv_store1 (by decide) y10 b9 zl9 n51
       obtain ⟨k0,k1,kf0,kf1,-⟩:=id zl9
       go_wp2_with fail
       go_meet
       exact ⟨by rw [K5.out],rfl,zst.2,zst.1⟩
 case rest=>
  obtain ⟨rfl,rfl,z9,yC⟩:=hcut
  obtain ⟨WC,hWC⟩: ∃W,W=wc:=⟨_,rfl⟩
  subst hWC
  obtain ⟨x9,d9,zl9,n9⟩:=z9
  have ZT:=hid (show ∀w,Nz 3 w x9 d9 (zl (Z:Int))→Calls Tryz.prog 202 #[.agg #[.bool (zneg (Z:Int)),.slice x9 (zl (Z:Int)).length d9]] w fun e w'=>e=.returned (.string (bsOf (decD Z)))∧Below w.heap.size w w' from fun w h=>by
   have h9:=zText_any (Z:Int) x9 d9 w h (by omega)
   unfold zTx at h9
   rwa [if_neg (by omega),Int.natAbs_natCast] at h9)
  have N9:=hid n9
  obtain ⟨j0,j1,-⟩:=zl9
  obtain ⟨D9,hD9⟩: ∃D,D=decD Z:=⟨_,rfl⟩
  rw [←hD9] at ZT HE1
  have lD9:D9.length≤1000:=by
   rw [hD9]
   have:Z<10^(d+1):=Nat.lt_of_le_of_lt hZb (Nat.pow_lt_pow_right (by omega) (by omega))
   have:=decD_len d Z this
   omega
  obtain ⟨l,hlD⟩: ∃l,l=D9.length:=⟨_,rfl⟩
  have HLD:=hid hlD
  clear H8 H9 HN HZq HZn RM DC2 TT2 hD9 n9 y3 hZb hqb IZ MI HZB lten lZ hlD
  go_upto_region 11 with (go_at_call 202;(with_reducible refine (ZT.out _ N9.out).mono ?_);rintro en w6 ⟨rfl,hb6⟩)
  have y6:=below_trans yC hb6
  clear yC hb6 j0 j1 N9 ZT
  go_loopw [14] (fun s14 wr=> ∃j:Nat,s14=.string (bsOf (List.replicate j 48++D9))∧(j=0∨j+l≤d)∧wr=w6) (fun s14 _=>d-strSz s14)
  case atStart=>exact ⟨0,rfl,.inl rfl,rfl⟩
  case round=>
   obtain ⟨j,rfl,hj,rfl⟩:=hrel
   obtain ⟨X9,hX9⟩: ∃X,X=List.replicate j 48++D9:=⟨_,rfl⟩
   have hXl:X9.length=j+l:=by rw [hX9,List.length_append,List.length_replicate,←HLD.out]
   obtain ⟨xl,hxl⟩: ∃x,x=X9.length:=⟨_,rfl⟩
   have hsz:(bsOf X9).size=xl:=by rw [bs_size,hxl]
   have lD9':=HLD.out
   have hx8:xl≤10000:=by rcases hj with hj|hj<;>omega
   have hAN:=add_nil (P:=Tryz.prog) X9 (by omega)
   rw [←hX9]
   by_cases hpp:xl<d
   ·have HX:=hid hX9
    have HXL:=hid (show xl=j+l by omega)
    have HXX:=hid hxl
    clear hX9 hXl hxl hj
    go_wp2_with fail
    go_roundw
    case rel=>exact ⟨j+1,by rw [HX.out];rfl,.inr (by have:=HXL.out;omega),by first|rfl|trivial⟩
    case measure=>rw [strSz_bs,strSz_bs,List.length_cons,←HXX.out];omega
   ·have hXS:X9=S:=by
     rw [←HE1.out,hX9]
     exact padz_end D9 j d (by rw [←HLD.out];exact hj) (by rw [←HLD.out];omega)
    have hxd:xl=d:=by rw [hxl,hXS];exact HSl.out
    have hlS:=HSl.out
    clear hX9 hXl hxl hj hAN hpp HE1 HSl HLD lD9 lD9'
    subst hXS
    subst hxd
    go_upto_if 64 with fail
    go_cut [14] (fun s14 wx=>s14=.string (bsOf (ptd X9 k))∧Below wr.heap.size wr wx)
    case first=>as_aux_lemma=>
     by_cases hk0:k=0
     ·have hd1: ¬1<xl:=by have:=HD.out;omega
      have hd2:decide (1<xl)=false:=decide_eq_false hd1
      have hd3: ¬1<(xl:Int):=by omega
      have HPT:=hid (show ptd X9 k=X9 by rw [hk0,ptd_zero])
      clear hk0
      go_wp2_with fail
      go_meet
      exact ⟨by rw [HPT.out],Below.refl _ _⟩
     ·have hd1:1<xl:=by have:=HD.out;omega
      have hd2:decide (1<xl)=true:=decide_eq_true hd1
      have hd3:1<(xl:Int):=by omega
      have HPT:=hid (show ptd X9 k=X9.take 1++46::X9.drop 1 from ptd_first X9 k (by rw [hlS];exact HD.out) (by omega))
      have hS1:=slice_to (P:=Tryz.prog) Tryz.underlying9 X9 1 (by omega) (by omega)
      have hS2:=slice_from (P:=Tryz.prog) Tryz.underlying9 X9 1 (by omega) (by omega)
      have hA1:=add_bs (P:=Tryz.prog) (X9.take 1) [46] (by simp;omega)
      have hA2:=add_bs (P:=Tryz.prog) (X9.take 1++ [46]) (X9.drop 1) (by simp;omega)
      have hb46:(ByteArray.mk #[46])=bsOf [46]:=rfl
      rw [show (1:Int).toNat=1 from rfl] at hS1 hS2
      obtain ⟨TA,hTA⟩: ∃X,X=X9.take 1:=⟨_,rfl⟩
      obtain ⟨TB,hTB⟩: ∃X,X=X9.drop 1:=⟨_,rfl⟩
      rw [←hTA] at hS1 hA1 hA2 HPT
      rw [←hTB] at hS2 hA2 HPT
      clear hk0 hTA hTB
      go_upto_region 14 with fail
      refine wp_region_grow 6 [65,66,67,68,69,70] [Fact.is (.string (bsOf X9)),Fact.is (.string (bsOf TA)),Fact.is (.string (bsOf (TA++ [46]))),Fact.is (.string (bsOf X9)),Fact.is (.string (bsOf TB)),Fact.is (.string (bsOf (TA++46::TB)))] (by kernel_rfl) (by kernel_rfl) ⟨?o0,?o1,?o2,?o3,?o4,?o5,trivial⟩ ?after
      case o0=>(refine oQ rfl ?_;intro ρ w1 R hcon hfn hρ hb hp hR;have e14:ρ (.tmp 14)=.string (bsOf X9):=hρ.tmp 14 rfl;clear hρ hp;unfold OpRun;go_simp;exact hR _ _ (Below.refl _ _) rfl)
      case o1=>(refine oQ rfl ?_;intro ρ w1 R hcon hfn hρ hb hp hR;have e65:ρ (.tmp 65)=_:=hp 0 65 rfl rfl;clear hρ hp;unfold OpRun;go_simp;exact hR _ _ (Below.refl _ _) rfl)
      case o2=>(refine oQ rfl ?_;intro ρ w1 R hcon hfn hρ hb hp hR;have e66:ρ (.tmp 66)=_:=hp 1 66 rfl rfl;clear hρ hp;unfold OpRun;go_simp;exact hR _ _ (Below.refl _ _) rfl)
      case o3=>(refine oQ rfl ?_;intro ρ w1 R hcon hfn hρ hb hp hR;have e14:ρ (.tmp 14)=.string (bsOf X9):=hρ.tmp 14 rfl;clear hρ hp;unfold OpRun;go_simp;exact hR _ _ (Below.refl _ _) rfl)
      case o4=>(refine oQ rfl ?_;intro ρ w1 R hcon hfn hρ hb hp hR;have e68:ρ (.tmp 68)=_:=hp 3 68 rfl rfl;clear hρ hp;unfold OpRun;go_simp;exact hR _ _ (Below.refl _ _) rfl)
      case o5=>(refine oQ rfl ?_;intro ρ w1 R hcon hfn hρ hb hp hR;have e67:ρ (.tmp 67)=_:=hp 2 67 rfl rfl;have e69:ρ (.tmp 69)=_:=hp 4 69 rfl rfl;clear hρ hp;unfold OpRun;go_simp;exact hR _ _ (Below.refl _ _) rfl)
      case after=>
       intro u wn hb hf
       have e70:u 70=_:=hf 5 70 (by omega) rfl
       clear hf
       simp only [putAll,Act.put,List.setIfInBounds_toArray,List.set_cons_zero,List.set_cons_succ,List.drop_succ_cons,List.drop_zero,List.drop_nil]
       rw [e70]
       go_wp2_with fail
       go_meet
       exact ⟨by rw [HPT.out],hb⟩
    case rest=>
     obtain ⟨rfl,y7⟩:=hcut
     obtain ⟨W7,hW7⟩: ∃W,W=wc:=⟨_,rfl⟩
     subst hW7
     have y8:=below_trans y6 y7
     have lPT:=ptd_len X9 k
     obtain ⟨PT,hPT⟩: ∃X,X=ptd X9 k:=⟨_,rfl⟩
     rw [←hPT] at lPT HSC ⊢
     obtain ⟨n,hn⟩: ∃n,n=P.natAbs:=⟨_,rfl⟩
     have DG:=hid (fun w=>digits_any 6 n (by omega) (by omega) w)
     obtain ⟨TD,hTD⟩: ∃X,X=decD n:=⟨_,rfl⟩
     have lTD:TD.length≤8:=by rw [hTD];exact decD_len 7 n (by omega)
     rw [←hTD] at DG
     clear hPT y6 y7
     by_cases hP0:P<0
     ·have hPn: -P=(n:Int):=by omega
      have hwn:IntKind.i64.wrap (n:Int)=(n:Int):=IntWalk.i64_in _ (by omega)
      by_cases h1:n<10
      ·have HFIN:=hid (show T=dsh ng (PT++ [101,45,48]++TD) by
        rw [HSC.out];unfold pwrT
        rw [if_pos hP0,←hn,if_pos h1,←hTD];simp)
       have h2:(n:Int)<10:=by omega
       have a1:=add_bs (P:=Tryz.prog) [101,45] [48] (by simp)
       have a2:=add_bs (P:=Tryz.prog) PT [101,45,48] (by simp;omega)
       have a3:=add_bs (P:=Tryz.prog) (PT++ [101,45,48]) TD (by simp;omega)
       have DS:=hid (fun w=>DA.out (PT++ [101,45,48]++TD) (by simp;omega) w)
       have b1:(ByteArray.mk #[101,45])=bsOf [101,45]:=rfl
       have b3:(ByteArray.mk #[48])=bsOf [48]:=rfl
       simp only [List.cons_append,List.nil_append] at a1
       rw [←HFIN.out] at DS
       generalize PT++ [101,45,48]++TD=U2 at *
       generalize PT++ [101,45,48]=U1 at *
       clear HSC hn hTD HFIN
       go_wp2_with (first
        |(go_at_call 203;(with_reducible refine (DG.out _).mono ?_);rintro en w8 ⟨rfl,rfl⟩)
        |(go_at_call 198;(with_reducible refine (DS.out _).mono ?_);rintro en w9 ⟨rfl,rfl⟩))
       go_ret2
       exact ⟨rfl,y8⟩
      ·have HFIN:=hid (show T=dsh ng (PT++ [101,45]++TD) by
        rw [HSC.out];unfold pwrT
        rw [if_pos hP0,←hn,if_neg h1,←hTD];simp)
       have h2: ¬(n:Int)<10:=by omega
       have a1:=add_bs (P:=Tryz.prog) [101,45] [48] (by simp)
       have a2:=add_bs (P:=Tryz.prog) PT [101,45] (by simp;omega)
       have a3:=add_bs (P:=Tryz.prog) (PT++ [101,45]) TD (by simp;omega)
       have DS:=hid (fun w=>DA.out (PT++ [101,45]++TD) (by simp;omega) w)
       have b1:(ByteArray.mk #[101,45])=bsOf [101,45]:=rfl
       have b3:(ByteArray.mk #[48])=bsOf [48]:=rfl
       simp only [List.cons_append,List.nil_append] at a1
       rw [←HFIN.out] at DS
       generalize PT++ [101,45]++TD=U2 at *
       generalize PT++ [101,45]=U1 at *
       clear HSC hn hTD HFIN
       go_wp2_with (first
        |(go_at_call 203;(with_reducible refine (DG.out _).mono ?_);rintro en w8 ⟨rfl,rfl⟩)
        |(go_at_call 198;(with_reducible refine (DS.out _).mono ?_);rintro en w9 ⟨rfl,rfl⟩))
       go_ret2
       exact ⟨rfl,y8⟩
     ·obtain ⟨m,rfl⟩:=Int.eq_ofNat_of_zero_le (show 0≤P by omega)
      have hn2:n=m:=by rw [hn,Int.natAbs_natCast]
      subst hn2
      by_cases h1:n<10
      ·have HFIN:=hid (show T=dsh ng (PT++ [101,43,48]++TD) by
        rw [HSC.out];unfold pwrT
        rw [if_neg hP0,←hn,if_pos h1,←hTD];simp)
       have h2:(n:Int)<10:=by omega
       have a1:=add_bs (P:=Tryz.prog) [101,43] [48] (by simp)
       have a2:=add_bs (P:=Tryz.prog) PT [101,43,48] (by simp;omega)
       have a3:=add_bs (P:=Tryz.prog) (PT++ [101,43,48]) TD (by simp;omega)
       have DS:=hid (fun w=>DA.out (PT++ [101,43,48]++TD) (by simp;omega) w)
       have b1:(ByteArray.mk #[101,43])=bsOf [101,43]:=rfl
       have b3:(ByteArray.mk #[48])=bsOf [48]:=rfl
       simp only [List.cons_append,List.nil_append] at a1
       rw [←HFIN.out] at DS
       generalize PT++ [101,43,48]++TD=U2 at *
       generalize PT++ [101,43,48]=U1 at *
       clear HSC hn hTD HFIN
       go_wp2_with (first
        |(go_at_call 203;(with_reducible refine (DG.out _).mono ?_);rintro en w8 ⟨rfl,rfl⟩)
        |(go_at_call 198;(with_reducible refine (DS.out _).mono ?_);rintro en w9 ⟨rfl,rfl⟩))
       go_ret2
       exact ⟨rfl,y8⟩
      ·have HFIN:=hid (show T=dsh ng (PT++ [101,43]++TD) by
        rw [HSC.out];unfold pwrT
        rw [if_neg hP0,←hn,if_neg h1,←hTD];simp)
       have h2: ¬(n:Int)<10:=by omega
       have a1:=add_bs (P:=Tryz.prog) [101,43] [48] (by simp)
       have a2:=add_bs (P:=Tryz.prog) PT [101,43] (by simp;omega)
       have a3:=add_bs (P:=Tryz.prog) (PT++ [101,43]) TD (by simp;omega)
       have DS:=hid (fun w=>DA.out (PT++ [101,43]++TD) (by simp;omega) w)
       have b1:(ByteArray.mk #[101,43])=bsOf [101,43]:=rfl
       have b3:(ByteArray.mk #[48])=bsOf [48]:=rfl
       simp only [List.cons_append,List.nil_append] at a1
       rw [←HFIN.out] at DS
       generalize PT++ [101,43]++TD=U2 at *
       generalize PT++ [101,43]=U1 at *
       clear HSC hn hTD HFIN
       go_wp2_with (first
        |(go_at_call 203;(with_reducible refine (DG.out _).mono ?_);rintro en w8 ⟨rfl,rfl⟩)
        |(go_at_call 198;(with_reducible refine (DS.out _).mono ?_);rintro en w9 ⟨rfl,rfl⟩))
       go_ret2
       exact ⟨rfl,y8⟩
set_option maxHeartbeats 8000000
theorem dec_of (x:Int) (h0:0≤x) (h1:x<18446744073709551616): ∃pd:Int,((fv x).1≠0→IsDec (dA (fv x)) (dB (fv x)) pd)∧ -1200≤pd∧pd≤1200:=by
 obtain ⟨d1,d2,d3⟩:=fv_small x h0 h1
 obtain ⟨-,d4,-⟩:=fv_bd x h0 h1
 by_cases hz:(fv x).1=0
 ·exact ⟨0,fun h=>absurd hz h,by omega,by omega⟩
 ·obtain ⟨N,hN⟩: ∃N,N=1100:=⟨_,rfl⟩
  obtain ⟨pd,k1,k2,k3⟩:=dec_exists (dA (fv x)) (dB (fv x)) N (dA_pos _ hz) (dB_pos _) (dA_bits _ d4 d3 N (by omega)) (dB_bits _ d2 N (by omega))
  exact ⟨pd,fun _=>k1,by omega,by omega⟩
end Go.Proofs.YtfphmlmgjhebjaaGreatDoor
namespace Go.Ulp
open Go.RowKit
def hxc (d:Nat):UInt8:=if d<10 then UInt8.ofNat (48+d) else UInt8.ofNat (87+d)
def hxD:Nat→Nat→List UInt8
 |0,_=> []
 |n+1,m=>hxc (m/16^n%16)::hxD n m
theorem hxD_len: ∀n m,(hxD n m).length=n
 |0,_=>rfl
 |n+1,m=>by show (hxD n m).length+1=n+1;rw [hxD_len n m]
theorem hxD_take: ∀(n m i:Nat),i<n→(hxD n m).take (n-i)=(hxD n m).take (n-(i+1))++ [hxc (m/16^i%16)]
 |0,_,_,h=>by omega
 |n+1,m,i,h=>by
  by_cases e:i=n
  ·subst e
   rw [show i+1-i=1 by omega,show i+1-(i+1)=0 by omega]
   rfl
  ·have ih:=hxD_take n m i (by omega)
   rw [show n+1-i=(n-i)+1 by omega,show n+1-(i+1)=(n-(i+1))+1 by omega]
   show hxc _::(hxD n m).take (n-i)=(hxc _::(hxD n m).take (n-(i+1)))++_
   rw [ih];rfl
theorem hxD_add (n z:Nat): ∀k,k≤n→hxD k (z+16^n)=hxD k z
 |0,_=>rfl
 |k+1,h=>by
  show hxc _::_=hxc _::_
  rw [hxD_add n z k (by omega)]
  congr 2
  obtain ⟨j,rfl⟩: ∃j,n=k+(j+1):=⟨n-k-1,by omega⟩
  rw [Nat.pow_add,Nat.add_mul_div_left _ _ (Nat.pow_pos (by omega)),Nat.pow_succ,Nat.add_mul_mod_self_right]
theorem hxD_zero: ∀n,hxD n 0=List.replicate n 48
 |0=>rfl
 |n+1=>by
  show hxc _::hxD n 0=_
  rw [hxD_zero n,Nat.zero_div];rfl
theorem getD_val (B:Nat) (hB:0<B) (L:List Nat) (hL:AllLt B L) (j:Nat):L.getD j 0=val B L/B^j%B:=by
 have hp:0<B^j:=Nat.pow_pos hB
 by_cases h:j<L.length
 ·have h1:=val_take_drop B L j (by omega)
  have h2:=val_lt B (L.take j) (fun d h=>hL d (List.mem_of_mem_take h))
  rw [List.length_take,Nat.min_eq_left (by omega)] at h2
  have h3:=val_drop B L j h
  have h4:=hL.getD hB j
  rw [h1,Nat.add_mul_div_left _ _ hp,Nat.div_eq_of_lt h2,Nat.zero_add,h3,Nat.add_mul_mod_self_left,Nat.mod_eq_of_lt h4]
 ·rw [getD_out _ _ (by omega)]
  have h1:=val_lt B L hL
  have h2:B^L.length≤B^j:=Nat.pow_le_pow_right hB (by omega)
  rw [Nat.div_eq_of_lt (by omega),Nat.zero_mod]
theorem limb_digit (m i:Nat):(limbs m).getD (i/8) 0/2^(4*(i%8))%16=m/16^i%16:=by
 rw [getD_val 4294967296 (by omega) (limbs m) (limbs_lim m),show val 4294967296 (limbs m)=m from lval_limbs m]
 obtain ⟨a,ha⟩: ∃a,a=i/8:=⟨_,rfl⟩
 obtain ⟨b,hb⟩: ∃b,b=i%8:=⟨_,rfl⟩
 have hi:i=8*a+b:=by omega
 have hb8:b<8:=by omega
 rw [←ha,←hb]
 have e1:(4294967296:Nat)^a=16^(8*a):=by rw [show (4294967296:Nat)=16^8 by decide,←Nat.pow_mul]
 have e2:(2:Nat)^(4*b)=16^b:=by rw [show (16:Nat)=2^4 by decide,←Nat.pow_mul]
 rw [e1,e2,hi,Nat.pow_add,←Nat.div_div_eq_div_mul]
 generalize m/16^(8*a)=y
 have e3:(4294967296:Nat)=16^b*16^(8-b):=by rw [←Nat.pow_add,show b+(8-b)=8 by omega]
 obtain ⟨c,hc⟩: ∃c,8-b=c+1:=⟨8-b-1,by omega⟩
 rw [e3,Nat.mod_mul_right_div_self,hc,Nat.pow_succ,Nat.mul_comm,Nat.mod_mul_right_mod]
theorem hx_str: ∀d:Nat,d<16→(ByteArray.mk #[48,49,50,51,52,53,54,55,56,57,97,98,99,100,101,102]).extract d (d+1)=⟨#[hxc d]⟩:=by decide
theorem hx_enc: ∀d:Nat,d<16→Utf8.encode ((hxc d).toNat:Int)=⟨#[hxc d]⟩:=by decide
theorem hx_get: ∀(d:Nat) (h:d<16),((ByteArray.mk #[48,49,50,51,52,53,54,55,56,57,97,98,99,100,101,102])[d]'h)=hxc d:=by decide
end Go.Ulp
