/- TopTold: what the proof leans on, part 24 (Tt2 Frame2 Tb Tb7). -/
import Derived.WalkKit
import Derived.ReadAgain
import Derived.ChangeReads
import Derived.Lib.SmallJoins
import Derived.ChangeSlices
import Derived.OpenShut
import Derived.Test.YtfphmlmgjhebjaaGreatDoorRows
import Derived.LaidMore
import Derived.Lib.LaidTab
import Derived.LaidLaws
import Derived.SevenTiedAt
import Derived.Stop.Joined
import Derived.Stop.LaidErr
import Derived.Lay
import Derived.Test.YtfphmlmgjhebjaaGreatDoorKTopTold1
import Derived.Test.YtfphmlmgjhebjaaGreatDoorKTopTold8
import Derived.Test.YtfphmlmgjhebjaaGreatDoorKTopTold11
import Derived.Test.YtfphmlmgjhebjaaGreatDoorKTopTold22
import Derived.Test.YtfphmlmgjhebjaaGreatDoorKTopTold23
set_option linter.unusedVariables false
set_option linter.unusedSimpArgs false
namespace Go.Ulp
open Go.RowKit
theorem abs_sgb (x:Int) (h0:0≤x) (h1:x<18446744073709551616):absOf x+sgb (negB x)=x:=by
 unfold absOf sgb negB
 by_cases c:9223372036854775808≤x
 ·rw [decide_eq_true c,if_pos rfl];omega
 ·rw [decide_eq_false c,if_neg (by decide)];omega
theorem rank_nat (x:Int) (h0:0≤x) (h1:x<18446744073709551616) (r:Nat) (h:absOf x=(r:Int)):(rankOf x).natAbs=r:=by
 rw [rank_abs x h0 h1,h]
 clear h h0 h1
 split<;>omega
theorem wf_sci (x pd:Int) (h0:0≤x) (h1:x<18446744073709551616) (hc:classOf x<4):wfT 101 0 16 false false false false false x pd=dsh (negB x) (ptd (scS (absOf x) 16 pd 0) 16++101::pwrT (scP (absOf x) 16 pd 0)):=by
 have hn:negB (absOf x)=false:=by unfold negB absOf;exact decide_eq_false (by omega)
 unfold wfT wfF wfB wvT wvS
 rw [if_neg (by decide),Bool.false_and,if_neg (by decide),if_neg (by omega),if_neg (by omega),if_neg (by decide),if_neg (by decide),if_pos rfl]
 unfold scT
 rw [hn,show wvP 16=16 from rfl]
 generalize ptd (scS (absOf x) 16 pd 0) 16++101::pwrT (scP (absOf x) 16 pd 0)=B
 have hw: ∀H L:List UInt8,wnN 0 H L=0:=fun H L=>by unfold wnN;omega
 rw [hw,List.replicate_zero,List.nil_append]
 unfold sgW dsh
 cases negB x
 ·rw [if_neg (by simp),if_neg (by decide),if_neg (by decide),if_neg (by decide)];rfl
 ·rw [if_pos ⟨rfl,by omega⟩,if_pos rfl,if_neg (by decide)];rfl
end Go.Ulp
namespace Go.Proofs.YtfphmlmgjhebjaaGreatDoor
open Go.RowKit Go.Ulp
set_option maxHeartbeats 4000000
set_option maxRecDepth 100000
theorem read_back (L:List UInt8) (neg:Bool) (Z:Nat) (q:Int) (r:Nat) (h:RdIs L neg Z q) (hr:1≤r) (hr2:r<9218868437227405312) (hf:fitR 1074 (Z*10^q.toNat) (10^(-q).toNat) r) (w:World) (hT:Tab 1 w):
 Calls Tryz.prog 34 #[.string (bsOf L),.int .i64 0] w fun e w'=> ∃c,RetNm w ((r:Int)+sgb neg) c 0 e w':=by
 obtain ⟨hl,hE,hN,hD,hK,hv⟩:=h
 refine (number_val L 0 w ⟨by omega,by omega⟩ (by omega) (fun e=>by rw [e] at hE;revert hE;decide+kernel) (fun e=>by rw [e] at hE;revert hE;decide+kernel) (fun e=>by rw [e] at hE;revert hE;decide+kernel) hE hD hT).mono ?_
 rintro e w' ⟨M,x,ok,hret⟩
 have hk:rkc (rdD L).length (rdK L)=rdK L:=by unfold rkc;omega
 have hB:0<rdDen (rdD L).length (rdK L):=rdDen_pos _ _
 have hfit:fitR 1074 (rdNum (dvl (rdD L)) (rdD L).length (rdK L)) (rdDen (rdD L).length (rdK L)) r:=by
  refine (fitR_ratio 1074 _ _ _ _ r hB (Nat.pow_pos (by omega)) ?_).2 hf
  unfold rdNum rdDen
  rw [hk];exact hv
 rw [num_fit _ M x _ _ r ok hB hr hr2 hfit,hN] at hret
 exact ⟨_,hret⟩
theorem read_none (L:List UInt8) (neg:Bool) (hl:L.length≤1000) (h:rdE L=0∧rdN L=neg∧rdD L= []) (w:World):
 Calls Tryz.prog 34 #[.string (bsOf L),.int .i64 0] w fun e w'=> ∃c,RetNm w (sgb neg) c 0 e w':=by
 obtain ⟨hE,hN,hD⟩:=h
 refine (number_zero L 0 w ⟨by omega,by omega⟩ (by omega) (fun e=>by rw [e] at hE;revert hE;decide+kernel) (fun e=>by rw [e] at hE;revert hE;decide+kernel) (fun e=>by rw [e] at hE;revert hE;decide+kernel) hE hD).mono ?_
 rintro e w' hret
 rw [hN] at hret
 exact ⟨_,hret⟩
theorem three_told (x:Int) (h0:0≤x) (h1:x<18446744073709551616) (hc:classOf x<4):
 ∃T1 T2 T3:List UInt8,
  (∀w,Tab 1 w→Tab10 w→Calls Tryz.prog 35 #[.int .u64 x] w fun e w'=>e=.returned (.string (bsOf T1))∧Below w.heap.size w w')∧
  (∀w,Tab 1 w→Calls Tryz.prog 34 #[.string (bsOf T1),.int .i64 0] w fun e w'=> ∃c,RetNm w x c 0 e w')∧
  (∀w,Tab 1 w→Tab10 w→Calls Tryz.prog 37 #[.int .u64 x] w fun e w'=>e=.returned (.string (bsOf T2))∧Below w.heap.size w w')∧
  (∀w,Calls Tryz.prog 36 #[.string (bsOf T2),.int .i64 0] w fun e w'=> ∃c,RetNm w x c 0 e w')∧
  (∀w,Tab 1 w→Tab10 w→Calls Tryz.prog 23 #[.agg #[.int .i64 101,.bool false,.bool false,.bool false,.bool false,.bool false,.int .i64 0,.int .i64 16],.int .u64 x] w fun e w'=>e=.returned (.tuple #[.string (bsOf T3),.int .i64 0])∧Below w.heap.size w w')∧
  (∀w,Tab 1 w→Calls Tryz.prog 34 #[.string (bsOf T3),.int .i64 0] w fun e w'=> ∃c,RetNm w x c 0 e w'):=by
 have hx:=abs_sgb x h0 h1
 have hab:=absOf_bd x
 have hok:wfO 101 0 16:=⟨.inl rfl,by omega,by omega,fun h=>by omega⟩
 by_cases c1:classOf x=1
 ·have ha:absOf x=0:=(class_zer x h0 h1).1 c1
  have hx2:sgb (negB x)=x:=by omega
  have hz:(fv x).1=0:=by
   rw [fv_uV x h0 h1 hc,uV_zer x h0 h1 c1,nrm_zero]
  have hza:(fv (absOf x)).1=0:=by rw [ha];decide+kernel
  refine ⟨dsh (negB x) [48],hexTx x,wfT 101 0 16 false false false false false x 0,fun w _ _=>shText_zero x h0 h1 c1 w,fun w _=>?_,fun w t t10=>hexText_any x h0 h1 w t t10,fun w=>?_,fun w t t10=>formatW_ok 101 0 16 x false false false false false hok h0 h1 0 (fun h=>absurd hza h) (by omega) w t t10,fun w _=>?_⟩
  ·have h:=read_none _ _ (by unfold dsh;split<;>simp) (sh_zero (negB x)) w
   rw [hx2] at h;exact h
  ·have e:hexTx x=dsh (negB x) [48,120,48,112,43,48]:=by
    unfold hexTx;rw [if_neg (by omega),if_neg (by omega),if_pos hz]
   rw [e]
   have f: ∀n:Bool,hrO (dsh n [48,120,48,112,43,48])=true∧hvl (hrD (dsh n [48,120,48,112,43,48]))=0∧hrN (dsh n [48,120,48,112,43,48])=n:=by decide+kernel
   obtain ⟨f1,f2,f3⟩:=f (negB x)
   refine (hexNum_zero _ 0 w ⟨by omega,by omega⟩ (by unfold dsh;split<;>simp) f1 f2).mono ?_
   rintro en w' hret
   rw [f3,hx2] at hret
   exact ⟨_,hret⟩
  ·have e:wfT 101 0 16 false false false false false x 0=dsh (negB x) (ptd (List.replicate 17 48) 16++101::pwrT 0):=by
    rw [wf_sci x 0 h0 h1 hc]
    unfold scS scP
    rw [if_pos hza,if_pos hza]
   rw [e]
   have h:=read_none _ _ (by cases negB x<;>decide+kernel) (sci_zero (negB x)) w
   rw [hx2] at h;exact h
 ·have hv:hasVal x=true:=by rw [hasVal_class x h0 h1,decide_eq_false (by omega)];rfl
  have heb:=expOf_bd x
  have hfb:=fracOf_bd x
  obtain ⟨E,hE⟩:=Int.eq_ofNat_of_zero_le heb.1
  obtain ⟨f,hf⟩:=Int.eq_ofNat_of_zero_le hfb.1
  have hE2:E<2047:=by
   have c4:=hc
   unfold classOf at c4
   split at c4
   ·split at c4<;>omega
   ·omega
  have hf2:f<4503599627370496:=by omega
  have hr:1≤E*4503599627370496+f:=by
   rcases Nat.eq_zero_or_pos (E*4503599627370496+f) with h|h
   ·exfalso;apply c1
    unfold classOf
    rw [if_neg (by omega),if_neg (by omega),if_neg (by omega)]
   ·exact h
  have hxm:absOf x=((E*4503599627370496+f:Nat):Int):=by
   unfold expOf at hE
   unfold fracOf at hf
   unfold absOf
   omega
  obtain ⟨pd,hp,hp1,hp2⟩:=dec_rank E f hf2 hE2 hr
  have vp:=(val_parts E f hf2).2
  have DG:=fun w t t10=>shDigits_any x h0 h1 hv c1 E f hE hf hr hE2 pd hp ⟨hp1,hp2⟩ w t t10
  obtain ⟨r,hrr⟩: ∃r,r=E*4503599627370496+f:=⟨_,rfl⟩
  have hr2:r<9218868437227405312:=by omega
  have hxr:x=(r:Int)+sgb (negB x):=by
   have h9:=hx
   rw [hxm,←hrr] at h9
   exact h9.symm
  have fx:fv (absOf x)=rkD ((E*4503599627370496+f:Nat):Int):=by rw [hxm];exact rkD_fv _ (by omega) (by omega)
  obtain ⟨D,hD⟩: ∃D,D=rkD ((E*4503599627370496+f:Nat):Int):=⟨_,rfl⟩
  rw [←hD] at hp vp DG fx
  obtain ⟨k,hk,hk1,hk2⟩:=sh_first D E f pd 16 (sh_seventeen D E f pd vp hf2 hr hp)
  have hLb:=shL_bd D k pd hp
  obtain ⟨Z,hZ⟩: ∃Z,Z=shZ D E f k pd:=⟨_,rfl⟩
  have hZb:0<Z∧Z<10^(k+1+1):=by
   have h9:=Nat.pow_pos (n:=k) (show 0<10 by omega)
   rw [Nat.pow_succ 10 (k+1),hZ]
   unfold shZ;split<;>omega
  obtain ⟨z1,z2,z3,z4,z5⟩:=stp_decD Z hZb.1
  have zl9:=decD_len (k+1) Z hZb.2
  have fitZ:=(fitP_iff E f Z (pd-k) hf2 hr).1 (by rw [hZ];exact shZ_fit D E f k pd vp hf2 hr hk2)
  rw [←hrr] at fitZ
  obtain ⟨d,hd⟩: ∃d,d=stp (decD Z):=⟨_,rfl⟩
  obtain ⟨q,hq⟩: ∃q,q=shX D E f k pd:=⟨_,rfl⟩
  have hq2:q=pd-k+(((decD Z).length-d.length:Nat):Int):=by rw [hq,hd,hZ];rfl
  rw [←hd] at z1 z2 z3 z4 z5
  have hqb: -900≤q∧q≤900:=by omega
  have hd0:d≠ []:=fun h=>by rw [h] at z2;exact absurd z2 (by decide)
  have SD: ∀w,Tab 1 w→Tab10 w→Calls Tryz.prog 90 #[.int .u64 x] w fun e w'=>e=.returned (.tuple #[.string (bsOf d),.int .i64 q,.int .i64 0])∧Below w.heap.size w w':=fun w t t10=>(DG w t t10).mono fun e w' ⟨j,j1,j2,he,hb⟩=>by
   obtain rfl:=sh_uniq hk1 hk2 j1 j2
   rw [he,hd,hZ,hq];exact ⟨rfl,hb⟩
  have hpd:(fv (absOf x)).1≠0→IsDec (dA (fv (absOf x))) (dB (fv (absOf x))) pd:=fun _=>by rw [fx];exact hp
  have hz:(fv x).1≠0:=fun h=>c1 ((uV_zero_iff x h0 h1 hc).1 (by
   rw [fv_uV x h0 h1 hc] at h;exact (nrm_zero_iff _ _).1 h))
  have hza:(fv (absOf x)).1≠0:=fun h=>by
   rw [fv_uV (absOf x) hab.1 hab.2 (by unfold classOf expOf fracOf absOf at *;omega)] at h
   have h9:=(nrm_zero_iff _ _).1 h
   have h8:=(uV_zero_iff (absOf x) hab.1 hab.2 (by unfold classOf expOf fracOf absOf at *;omega)).1 h9
   have h7:=(class_zer (absOf x) hab.1 hab.2).1 h8
   unfold absOf at h7 hxm
   omega
  refine ⟨dsh (negB x) (shT d q),hexTx x,wfT 101 0 16 false false false false false x pd,fun w t t10=>shText_val x h0 h1 (by omega) (by omega) c1 d q (by omega) (by omega) SD w t t10,fun w t=>?_,fun w t t10=>hexText_any x h0 h1 w t t10,fun w=>?_,fun w t t10=>formatW_ok 101 0 16 x false false false false false hok h0 h1 pd hpd (by omega) w t t10,fun w t=>?_⟩
  ·have hfd:fitR 1074 (dvl d*10^q.toNat) (10^(-q).toNat) r:=by
    refine (fitR_ratio 1074 _ _ _ _ r (Nat.pow_pos (by omega)) (Nat.pow_pos (by omega)) ?_).2 fitZ
    rw [←z1,Nat.mul_assoc,Nat.mul_assoc,Nat.mul_assoc,←Nat.pow_add,←Nat.pow_add,←Nat.pow_add]
    congr 2;omega
   have h:=read_back _ _ (dvl d) q r (shT_read (negB x) d q z4 hd0 (by omega) z5 hqb) (by omega) hr2 hfd w t
   rw [←hxr] at h;exact h
  ·obtain ⟨n,hn⟩: ∃n,n=hfN (fv x):=⟨_,rfl⟩
   have hrk:(rankOf x).natAbs=r:=rank_nat x h0 h1 r (by rw [hrr];exact hxm)
   obtain ⟨v1,v2,v3⟩:=hx_val x h0 h1 r hrk hz n hn
   have hdb:=fv_bd x h0 h1
   have hblA:bl (fv x).1.natAbs≤53:=(bl_le _ 53).2 hdb.2.1
   have hK:hfK (fv x)=(bl (fv x).1.natAbs:Int)+(fv x).2-1:=rfl
   have hn2:n≤14:=by rw [hn];unfold hfN;omega
   have e:hexTx x=hxT (negB x) n (hfM (fv x) n) (hfK (fv x)):=by
    unfold hexTx
    rw [if_neg (by omega),if_neg (by omega),if_neg hz]
    unfold hfT
    rw [hfD_self (fv x) _ 3 (by unfold fv;exact nrm_isN _ _) (Nat.le_refl _),hn]
   obtain ⟨g1,g2,g3,g4,g5⟩:=hx_read (negB x) n (hfM (fv x) n) (hfK (fv x)) (by omega) v1 v2 (by omega) _ e
   obtain ⟨M,hM⟩: ∃M,M=hfM (fv x) n:=⟨_,rfl⟩
   rw [←hM] at v1 v2 v3 g4
   have hMp:0<M:=Nat.lt_of_lt_of_le (Nat.pow_pos (by omega)) v1
   have hM57:M<2^57:=Nat.lt_of_lt_of_le v2 (by
    have:16^n≤16^14:=Nat.pow_le_pow_right (by omega) hn2
    exact Nat.le_trans (Nat.mul_le_mul_left 2 this) (by decide))
   have hMb:bl M≤4000:=Nat.le_trans ((bl_le M 57).2 hM57) (by decide)
   obtain ⟨K,hKK⟩: ∃K,K=hfK (fv x)-4*(n:Int):=⟨_,rfl⟩
   rw [←hKK] at v3 g5
   refine (hexNum_val _ 0 w ⟨by omega,by omega⟩ g1 g2 M g4 hMp).mono ?_
   rintro en w' hret
   rw [g3,g5,(hr_same (negB x) M K 0 (by omega) (by omega) hMp hMb).1,show hrc K=K by unfold hrc;omega,num_fit (negB x) M K _ _ r (rdok_two M K hMp) (Nat.two_pow_pos _) (by omega) hr2 (fit_exact _ _ r (Nat.two_pow_pos _) (by omega) v3),←hxr] at hret
   exact ⟨_,hret⟩
  ·have hvr:dA D*2^1074=rvi r*dB D:=by rw [hrr,(rvi_lm E f hf2).1];exact vp
   have hfs:=fit_sci (dA D) (dB D) r pd (dB_pos D) hp (by omega) hvr
   have hqb2:=sciQ_bd false (dA D) (dB D) 16 pd 0 (dB_pos D) hp
   have e:wfT 101 0 16 false false false false false x pd=dsh (negB x) (ptd (sciD (sciQ false (dA D) (dB D) 16 pd 0) 16) 16++101::pwrT (sciP (sciQ false (dA D) (dB D) 16 pd 0) 16 pd)):=by
    rw [wf_sci x pd h0 h1 hc]
    unfold scS scP scQ
    rw [if_neg hza,if_neg hza,fx,show negB (absOf x)=false by unfold negB absOf;exact decide_eq_false (by omega)]
   rw [e]
   have h:=read_back _ _ _ (pd-16) r (sci_read (negB x) (sciQ false (dA D) (dB D) 16 pd 0) pd hqb2.1 hqb2.2 (by omega)) (by omega) hr2 hfs w t
   rw [←hxr] at h;exact h
theorem topTold_walk (x:Int) (hx:0≤x∧x<18446744073709551616) (w:World) (hT:Tab 1 w) (hT10:Tab10 w):
 Calls Tryz.prog 6 #[.int .u64 x] w fun e w'=>e=.returned (.bool true)∧Below w.heap.size w w':=by
 have LV:=hid (fun w t t10=>lives_any w t t10)
 have CL:=hid (fun w=>class_any x hx.1 hx.2 w)
 have HT:=hid hT
 have HT10:=hid hT10
 clear hT hT10
 by_cases c4:4≤classOf x
 ·generalize classOf x=cx at *
  go_enter Tryz.func6,Tryz.ntmps6
  go_wp2_with (first|(go_at_call 28;first|((with_reducible refine (LV.out _ HT.out HT10.out).mono ?_);rintro en w1 ⟨rfl,hb1⟩)|((with_reducible refine (LV.out _ (HT.out.below hb1) (HT10.out.below hb1)).mono ?_);rintro en w2 ⟨rfl,hb2⟩))|(go_at_call 33;(with_reducible refine (CL.out _).mono ?_);rintro en w3 ⟨rfl,rfl⟩))
  go_ret
  exact ⟨rfl,below_trans hb1 hb2⟩
 ·obtain ⟨T1,T2,T3,ST0,SN0,HX0,HN0,WF0,WN0⟩:=three_told x hx.1 hx.2 (by omega)
  have ST:=hid ST0
  have SN:=hid SN0
  have HX:=hid HX0
  have HN:=hid HN0
  have WF:=hid WF0
  have WN:=hid WN0
  have OK:=hid (fun g w (h:ErrZ w g 4)=>topOk_any g 4 4 w h (by omega))
  have hxx:(x==x)=true:=beq_self_eq_true x
  clear ST0 SN0 HX0 HN0 WF0 WN0 hx
  generalize classOf x=cx at *
  generalize bsOf T1=Q1 at *
  generalize bsOf T2=Q2 at *
  generalize bsOf T3=Q3 at *
  go_enter Tryz.func6,Tryz.ntmps6
  go_upto_region 3 with (first|(go_at_call 28;first|((with_reducible refine (LV.out _ HT.out HT10.out).mono ?_);rintro en w1 ⟨rfl,hb1⟩)|((with_reducible refine (LV.out _ (HT.out.below hb1) (HT10.out.below hb1)).mono ?_);rintro en w2 ⟨rfl,hb2⟩))|(go_at_call 33;(with_reducible refine (CL.out _).mono ?_);rintro en w3 ⟨rfl,rfl⟩))
  go_upto_region 4 with (first
   |(go_at_call 35;(with_reducible refine (ST.out _ (HT.out.below hb1) (HT10.out.below hb1)).mono ?_);rintro en w4 ⟨rfl,hb4⟩;have y4:=below_trans hb1 hb4)
   |(go_at_call 34;(with_reducible refine (SN.out _ (HT.out.below y4)).mono ?_);rintro en w5 ⟨c5,rfl,hb5⟩;have y5:=below_trans y4 hb5))
  clear ST SN LV CL
  go_upto_region 5 with (first
   |(go_at_call 37;(with_reducible refine (HX.out _ (HT.out.below y5) (HT10.out.below y5)).mono ?_);rintro en w6 ⟨rfl,hb6⟩;have y6:=below_trans y5 hb6)
   |(go_at_call 36;(with_reducible refine (HN.out _).mono ?_);rintro en w7 ⟨c7,rfl,hb7⟩;have y7:=below_trans y6 hb7))
  clear HX HN hb1 hb4 hb5 y4 y5
  go_upto_region 7 with (first
   |(go_at_call 23;(with_reducible refine (WF.out _ (HT.out.below y7) (HT10.out.below y7)).mono ?_);rintro en w8 ⟨rfl,hb8⟩;have y8:=below_trans y7 hb8)
   |(go_at_call 34;(with_reducible refine (WN.out _ (HT.out.below y8)).mono ?_);rintro en w9 ⟨c9,rfl,hb9⟩;have y9:=below_trans y8 hb9))
  clear WF WN hb6 hb7 y6 y7
  go_wp2_with (go_at_call 32;(with_reducible refine (OK.out _ _ ErrZ.made4).mono ?_);rintro en w10 ⟨rfl,hb10⟩)
  go_ret
  exact ⟨rfl,below_trans (below_trans y9 (below_alloc _ _)) hb10⟩
end Go.Proofs.YtfphmlmgjhebjaaGreatDoor
namespace Go.Ulp
open Go.RowKit Go.WideShapes Go.ChangeShapes Go.Joins Go.Deep
section
variable {H:Type} {enc:TypeId×Value→H} {P:Program} {w:World} {base:Nat} {spare:Nat→Bool} {held:Bool}
theorem trodAll_still {w':World}: ∀ {ts:List TypeId} {vs:List Value} {ds:List (DataW H)} {ps:List MemPlace},DataW.TrodAll enc P w base spare held ts vs ds ps→(∀p∈ps,w.sameAt w' p)→DataW.TrodAll enc P w' base spare held ts vs ds ps
 | [],_,_,_,h,_=>by
   obtain ⟨rfl,rfl,rfl⟩:=trodAll_nil h
   exact trodAll_mk0
 |_::_,_,_,_,h,hs=>by
  obtain ⟨v,vs,d,ds,p,q,rfl,rfl,rfl,⟨n,h1⟩,h2⟩:=trodAll_cons h
  exact ⟨p,q,⟨n,DataW.trod_carry n _ _ _ h1 (fun x hx=>hs x (List.mem_append_left _ hx))⟩,trodAll_still h2 (fun x hx=>hs x (List.mem_append_right _ hx)),rfl⟩
theorem post_reads {f:Func} {s:ChangeSpec} {apart fresh handsOn:Bool} {W W':World} {args:Array Value} {v:Value} {ds:List (DataW H)} {p:List MemPlace}
 (hW:DataW.Whole enc P f.params.toList s.vars apart W args.toList ds [] (p++ [])) (hA:DataW.TrodAll enc P W 0 (fun _=>true) true f.params.toList args.toList ds p)
 (K:Kids P (· <P.types.size)) (full: ∀t e,t<P.types.size→P.underlying t=some (.slice e)→0<P.cellsOf e) (hts: ∀t∈f.params.toList,t<P.types.size)
 (hres: ∀b,DataW.TrodAll enc P W' b (fun _=>false) handsOn f.resultTypes.toList (v.resultList f.resultTypes.size) (s.fn H (ds++ [])).results [])
 (hargs:(s.fn H (ds++ [])).args=ds) (hvars:DataW.TrodVars enc P W' (fun b=>decide (b<W.heap.size)) s.vars (s.fn H (ds++ [])).vars [])
 (hb:Below W.heap.size W W'):s.post enc P f apart fresh handsOn false W args v W':=by
 have hlt: ∀x∈p,x.block<W.heap.size:=fun x hx=>hW.lt x (List.mem_append_left _ hx)
 have h1:=DataW.TrodAll.respare (spare':=fun b=>decide (b<W.heap.size)) K full hts hA (fun x hx=>by simpa using hlt x hx)
 have h2:=trodAll_still (w':=W') h1 (fun x hx=>hb.same (hlt x hx))
 refine ⟨ds,[],p++ [],[],p,[],hW,hres _,?_,hvars,hb.frame _,fun h=>by cases h⟩
 rw [hargs];exact h2
end
section
variable {H:Type} {enc:TypeId×Value→H} {P:Program} {w:World} {base:Nat} {spare:Nat→Bool} {held:Bool}
end
section
variable {H:Type} {enc:TypeId×Value→H} {P:Program} {w:World} {base:Nat} {spare:Nat→Bool} {held:Bool}
end
end Go.Ulp
namespace Go.Proofs.YtfphmlmgjhebjaaGreatDoor
open Go Go.RowKit Go.Ulp Go.ChangeShapes Go.WideShapes Go.ChangeAt
theorem gTab : Tryz.prog.globalNamed "math/bits.deBruijn32tab" = some 1 := by kernel_rfl
def tabZ:List Int:=Lib.deBruijn32tab.map fun n:Nat=>(n:Int)
def laidV : List (String × DataW Unit) := [("math/bits.deBruijn32tab", Rows.laid_math_bits_deBruijn32tab), ("math/bits.deBruijn64tab", Rows.laid_math_bits_deBruijn64tab), ("internal/strconv.uint64pow10", Rows.laid_internal_strconv_uint64pow10), ("unicode/utf8.acceptRanges", Rows.laid_unicode_utf8_acceptRanges), ("strconv.ErrRange", Rows.laid_strconv_ErrRange), ("strconv.ErrSyntax", Rows.laid_strconv_ErrSyntax), ("unicode/utf8.first", Rows.laid_unicode_utf8_first)]
theorem gTenV : Tryz.prog.globalNamed "internal/strconv.uint64pow10" = some 6 := by kernel_rfl
theorem laid32V_eq : (("math/bits.deBruijn32tab", Rows.laid_math_bits_deBruijn32tab) : String × DataW Unit) = ("math/bits.deBruijn32tab", Lib.tabData .u8 tabZ) := by rfl
theorem laid10V_eq : (("internal/strconv.uint64pow10", Rows.laid_internal_strconv_uint64pow10) : String × DataW Unit) = ("internal/strconv.uint64pow10", Lib.tabData .u64 Lib.pow10Tab) := by rfl
theorem plainV {W:World} (h:laidMetH Tryz.prog laidV W):laidMet Tryz.prog laidV W:=by
 rwa [MakeChecks.laidMetH_plain _ _ _ (by kernel_rfl)] at h
theorem tabV {W:World} (h:laidMetH Tryz.prog laidV W):Tab 1 W:=by
 have h:=plainV h
 unfold laidV at h
 rw [laid32V_eq] at h
 have h1:=Lib.tabIs_of_head gTab (by kernel_rfl) Tryz.underlying261 Tryz.underlying5 (by kernel_rfl) (by kernel_rfl) h
 intro j hj
 have h2:=h1.cell gTab j (by unfold tabZ;rw [List.length_map];exact hj)
 rw [h2]
 unfold tabZ
 congr 2
 rw [List.getD_eq_getElem?_getD,List.getElem?_map,List.getElem?_eq_getElem hj,List.getD_eq_getElem?_getD,List.getElem?_eq_getElem hj];rfl
theorem tenV {W:World} (h:laidMetH Tryz.prog laidV W):Tab10 W:=by
 have h:=laidMet.tail (laidMet.tail (plainV h))
 rw [laid10V_eq] at h
 exact Lib.tabIs_of_head gTenV (by kernel_rfl) Tryz.underlying285 Tryz.underlying22 (by kernel_rfl) (by kernel_rfl) h
theorem doorV_met (os:Os) (args:Array Value):laidMetH Tryz.prog laidV ((World.laidAll Tryz.prog os laidV).forCall (fun _ _=>0) ⟨#[],args,[]⟩).memory:=by
 rw [MakeChecks.laidMetH_plain _ _ _ (by kernel_rfl)];exact laidMet_laidAll _ (by kernel_rfl) (by kernel_rfl)
theorem shapedV (os:Os):(World.laidAll Tryz.prog os laidV).Shaped Tryz.prog:=World.shaped_of_ZipB (by kernel_rfl) (by kernel_rfl)
end Go.Proofs.YtfphmlmgjhebjaaGreatDoor
