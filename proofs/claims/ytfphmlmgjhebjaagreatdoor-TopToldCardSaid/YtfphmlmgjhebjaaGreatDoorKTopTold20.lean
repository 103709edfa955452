/- TopTold: what the proof leans on, part 20 (Hx5 Wa5 Wa6). -/
import Derived.Test.YtfphmlmgjhebjaaGreatDoorKTopTold19
set_option linter.unusedVariables false
set_option linter.unusedSimpArgs false
namespace Go.Ulp
open Go.RowKit
def hexTx (x:Int):List UInt8:=if classOf x=5 then [110,97,110] else if classOf x=4 then dsh (negB x) [105,110,102] else if (fv x).1=0 then dsh (negB x) [48,120,48,112,43,48] else hfT x (hfN (fv x)) 3
def hexFx (x:Int) (n:Nat) (mode:Int):List UInt8:=if (fv x).1=0 then hxZ (negB x) n else hfT x n mode
def hexFc (x:Int) (n:Nat):Bool:=if (fv x).1=0 then false else hfC x n
def Fact.hmp (D:Dy) (ch:Bool):Fact:=⟨fun v w=> ∃u,v=.tuple #[u,.bool ch]∧VD w D u,fun _ _ _ h hb=>by
 obtain ⟨u,h1,h2⟩:=h
 exact ⟨u,h1,h2.below hb⟩⟩
theorem cutN_le_h (neg:Bool) (M:Nat) (j mode:Int) (h:0<j):cutN neg M j mode≤M+1:=by
 unfold cutN
 rw [if_neg (by omega)]
 have:=Nat.div_le_self M (2^j.toNat)
 split<;>omega
end Go.Ulp
namespace Go.Proofs.YtfphmlmgjhebjaaGreatDoor
open Go.RowKit Go.Ulp
set_option maxHeartbeats 2000000
set_option maxRecDepth 100000
theorem hKnown_any (mode:Int) (w:World):Calls Tryz.prog 78 #[.int .i64 mode] w fun e w'=>e=.returned (.bool (decide (0≤mode∧mode≤4)))∧w=w':=by
 obtain ⟨K,hK⟩: ∃K,K=decide (0≤mode∧mode≤4):=⟨_,rfl⟩
 rw [←hK]
 by_cases h:0≤mode
 ·have HC:=hid (show decide (mode≤4)=K by rw [hK,decide_eq_decide];omega)
  clear hK
  go_enter Tryz.func78,Tryz.ntmps78
  go_wp2_with fail
  go_ret
  exact ⟨ret_bool HC.out,rfl⟩
 ·have HC:=hid (show false=K by rw [hK,eq_comm];exact decide_eq_false (by omega))
  clear hK
  go_enter Tryz.func78,Tryz.ntmps78
  go_wp2_with fail
  go_ret
  exact ⟨ret_bool HC.out,rfl⟩
theorem hexText_any (x:Int) (h0:0≤x) (h1:x<18446744073709551616) (w:World) (hT:Tab 1 w) (hT10:Tab10 w):
 Calls Tryz.prog 37 #[.int .u64 x] w fun e w'=>e=.returned (.string (bsOf (hexTx x)))∧Below w.heap.size w w':=by
 have CL:=hid (fun w=>class_any x h0 h1 w)
 have b1:(ByteArray.mk #[105,110,102])=bsOf [105,110,102]:=rfl
 have b2:(ByteArray.mk #[45,105,110,102])=bsOf [45,105,110,102]:=rfl
 have b3:(ByteArray.mk #[110,97,110])=bsOf [110,97,110]:=rfl
 by_cases c5:classOf x=5
 ·have HR:=hid (show hexTx x= [110,97,110] by unfold hexTx;rw [if_pos c5])
  rw [c5] at CL
  clear c5 h0 h1 hT hT10
  generalize hexTx x=T at *
  go_enter Tryz.func37,Tryz.ntmps37
  go_wp2_with (go_at_call 33;(with_reducible refine (CL.out _).mono ?_);rintro en w1 ⟨rfl,rfl⟩)
  go_ret
  exact ⟨by rw [HR.out];rfl,Below.refl _ _⟩
 by_cases c4:classOf x=4
 ·have HR:=hid (show hexTx x=dsh (negB x) [105,110,102] by unfold hexTx;rw [if_neg c5,if_pos c4])
  rw [c4] at CL
  by_cases hx:9223372036854775808≤x
  ·have hs:x/9223372036854775808=1:=by omega
   have HR2:=hid (show hexTx x= [45,105,110,102] by rw [HR.out,show negB x=true from decide_eq_true hx];rfl)
   clear c5 c4 HR hT hT10
   generalize hexTx x=T at *
   go_enter Tryz.func37,Tryz.ntmps37
   go_wp2_with (go_at_call 33;(with_reducible refine (CL.out _).mono ?_);rintro en w1 ⟨rfl,rfl⟩)
   go_ret
   exact ⟨by rw [HR2.out];rfl,Below.refl _ _⟩
  ·have hs:x/9223372036854775808=0:=by omega
   have HR2:=hid (show hexTx x= [105,110,102] by rw [HR.out,show negB x=false from decide_eq_false hx];rfl)
   clear c5 c4 HR hT hT10
   generalize hexTx x=T at *
   go_enter Tryz.func37,Tryz.ntmps37
   go_wp2_with (go_at_call 33;(with_reducible refine (CL.out _).mono ?_);rintro en w1 ⟨rfl,rfl⟩)
   go_ret
   exact ⟨by rw [HR2.out];rfl,Below.refl _ _⟩
 have hv:hasVal x=true:=by
  have a:=class_val x h0 h1
  have:classOf x≤5:=by unfold classOf;split<;>split<;>(try split)<;>omega
  unfold hasVal
  unfold absOf at a
  exact decide_eq_true (by omega)
 obtain ⟨d1,d2,d3⟩:=fv_small_h x h0 h1
 obtain ⟨-,d4,-⟩:=fv_bd x h0 h1
 have VA:=hid (fun w t=>value_any x h0 h1 w t)
 have hbl:=(bl_le (fv x).1.natAbs 53).2 d4
 obtain ⟨B,hB⟩: ∃B,B=max (bl (fv x).1.natAbs) 1:=⟨_,rfl⟩
 obtain ⟨n,hn⟩: ∃n,n=(B-1+3)/4:=⟨_,rfl⟩
 have WR:=hid (show ∀v w,VD w (fv x) v→Tab10 w→Calls Tryz.prog 97 #[.int .u64 x,v,.int .i64 (n:Int)] w fun e w'=>e=.returned (.string (bsOf (hexTx x)))∧Below w.heap.size w w' from fun v w hv9 ht=>by
  by_cases hz:(fv x).1=0
  ·have e:hexTx x=hxZ (negB x) n:=by
    have:n=0:=by rw [hn,hB,hz];rfl
    rw [this]
    unfold hexTx;rw [if_neg c5,if_neg c4,if_pos hz];rfl
   rw [e]
   exact writeZ_any x h0 h1 v (fv x) n w hv9 hz (by omega)
  ·have hbp:=(bl_pos (fv x).1.natAbs).2 (by omega)
   have hnN:n=hfN (fv x):=by rw [hn,hB];unfold hfN;congr 2;omega
   have hE:=hfD_self (fv x) n 3 (fv_isNh x) (by omega)
   have e:hexTx x=hxT (negB x) n (hfM (fv x) n) (hfK (fv x)):=by
    unfold hexTx;rw [if_neg c5,if_neg c4,if_neg hz,←hnN]
    unfold hfT;rw [hE]
   rw [e]
   have hKD:hfK (fv x)=(bl (fv x).1.natAbs:Int)+(fv x).2-1:=rfl
   have hs0:0≤(fv x).2-hfK (fv x)+4*(n:Int):=by omega
   exact write_any x h0 h1 v (fv x) n (hfK (fv x)) ((fv x).2-hfK (fv x)+4*(n:Int)).toNat (hfM (fv x) n) w hv9 hz (by omega) (by omega) (by omega) hKD (by omega) rfl ht)
 have LN:=hid (fun a c w h=>natLen_any a c (fv x).1.natAbs w h (by omega))
 generalize hexTx x=T at *
 generalize fv x=D at *
 obtain ⟨M,hM⟩: ∃M,M=D.1.natAbs:=⟨_,rfl⟩
 obtain ⟨b,hb9⟩: ∃b,b=bl M:=⟨_,rfl⟩
 rw [←hM] at LN hbl hB
 have HM:=hid hM
 clear hM
 rw [←hb9] at LN hbl hB
 have hmx:max (b:Int) 1=(B:Int):=by omega
 have hw1:IntKind.i64.wrap ((B:Int)-1)=(B:Int)-1:=IntWalk.i64_in _ (by omega)
 have hw2:IntKind.i64.wrap ((B:Int)-1+3)=(B:Int)-1+3:=IntWalk.i64_in _ (by omega)
 have hq:((B:Int)-1+3).tdiv 4=(n:Int):=by rw [Int.tdiv_eq_ediv_of_nonneg (by omega)];omega
 have hq2:((B:Int)-1+3)/4=(n:Int):=by omega
 have hwn:IntKind.i64.wrap (n:Int)=(n:Int):=IntWalk.i64_in _ (by omega)
 have h85:classOf x≠5:=c5
 generalize classOf x=c at *
 have HT:=hid hT
 have HT10:=hid hT10
 clear hT hT10 hv hb9 hB hn
 go_enter Tryz.func37,Tryz.ntmps37
 go_upto_region 9 with (first
  |(go_at_call 33;(with_reducible refine (CL.out _).mono ?_);rintro en w1 ⟨rfl,rfl⟩)
  |(go_at_call 96;(with_reducible refine (VA.out _ HT.out).mono ?_);rintro en w2 ⟨v3,rfl,⟨a3,c3,rfl,hN3⟩,hb2⟩))
 rw [←HM.out] at hN3 ⊢
 refine wp_worldZ (fun WW=>Below w.heap.size w WW∧QL 67 WW w2.heap.size (decide (D.1<0)) (.slice a3 (limbs M).length c3) D.2∧Ns .u32 WW a3 c3 (limbs M)) ⟨below_trans hb2 (below_alloc _ _),QL.made rfl,hN3.below (below_alloc _ _)⟩ ?_
 intro W1 ⟨y1,q3,n3⟩
 obtain ⟨g3,hg3⟩: ∃g,g=w2.heap.size:=⟨_,rfl⟩
 rw [←hg3] at q3 ⊢
 clear hg3 hN3 hb2 VA
 refine wp_region_grow 11 [15,16,17,18,19,20,21,22,23,24,2] [Fact.is (.int .u64 x),Fact.is (.agg #[.bool (decide (D.1<0)),.slice a3 (limbs M).length c3,.int .i64 D.2]),Fact.is (.pointer (some ⟨g3,1,none⟩)),Fact.is (.slice a3 (limbs M).length c3),Fact.is (.int .i64 (b:Int)),Fact.is (.int .i64 (B:Int)),Fact.is (.int .i64 ((B:Int)-1)),Fact.is (.int .i64 ((B:Int)-1+3)),Fact.is (.int .i64 (n:Int)),Fact.is (.string (bsOf T)),Fact.is (.string (bsOf T))] (by kernel_rfl) (by kernel_rfl) ⟨?o0,?o1,?o2,?o3,?o4,?o5,?o6,?o7,?o8,?o9,?o10,trivial⟩ ?after
 case o0=>(refine oQ rfl ?_;intro ρ w1 R hcon hfn hρ hb hp hR;have e0:ρ (.tmp 0)=.int .u64 x:=hρ.tmp 0 rfl;clear hρ hp;unfold OpRun;go_simp;exact hR _ _ (Below.refl _ _) rfl)
 case o1=>(refine oQ rfl ?_;intro ρ w1 R hcon hfn hρ hb hp hR;have e3:ρ (.tmp 3)=.pointer (some ⟨g3,0,none⟩):=hρ.tmp 3 rfl;obtain ⟨⟨j0,j1,-⟩,j2,-⟩:=q3.below hb;clear hρ hp;unfold OpRun;go_simp;exact hR _ _ (Below.refl _ _) rfl)
 case o2=>(refine oQ rfl ?_;intro ρ w1 R hcon hfn hρ hb hp hR;have e3:ρ (.tmp 3)=.pointer (some ⟨g3,0,none⟩):=hρ.tmp 3 rfl;clear hρ hp;unfold OpRun;go_simp;exact hR _ _ (Below.refl _ _) rfl)
 case o3=>(refine oQ rfl ?_;intro ρ w1 R hcon hfn hρ hb hp hR;have e17:ρ (.tmp 17)=_:=hp 2 17 rfl rfl;obtain ⟨⟨j0,j1,-⟩,j2,-⟩:=q3.below hb;clear hρ hp;unfold OpRun;go_simp;exact hR _ _ (Below.refl _ _) rfl)
 case o4=>(refine oQ rfl ?_;intro ρ w1 R hcon hfn hρ hb hp hR;have e18:ρ (.tmp 18)=_:=hp 3 18 rfl rfl;clear hρ hp;unfold OpRun;go_simp;(refine (LN.out _ _ _ (n3.below hb)).mono ?_;rintro e wn ⟨rfl,rfl⟩;exact ⟨_,rfl,hR _ _ (Below.refl _ _) rfl⟩))
 case o5=>(refine oQ rfl ?_;intro ρ w1 R hcon hfn hρ hb hp hR;have e19:ρ (.tmp 19)=_:=hp 4 19 rfl rfl;clear hρ hp;unfold OpRun;go_simp;exact hR _ _ (Below.refl _ _) rfl)
 case o6=>(refine oQ rfl ?_;intro ρ w1 R hcon hfn hρ hb hp hR;have e20:ρ (.tmp 20)=_:=hp 5 20 rfl rfl;clear hρ hp;unfold OpRun;go_simp;exact hR _ _ (Below.refl _ _) rfl)
 case o7=>(refine oQ rfl ?_;intro ρ w1 R hcon hfn hρ hb hp hR;have e21:ρ (.tmp 21)=_:=hp 6 21 rfl rfl;clear hρ hp;unfold OpRun;go_simp;exact hR _ _ (Below.refl _ _) rfl)
 case o8=>(refine oQ rfl ?_;intro ρ w1 R hcon hfn hρ hb hp hR;have e22:ρ (.tmp 22)=_:=hp 7 22 rfl rfl;clear hρ hp;unfold OpRun;go_simp;exact hR _ _ (Below.refl _ _) rfl)
 case o9=>(refine oQ rfl ?_;intro ρ w1 R hcon hfn hρ hb hp hR;have e15:ρ (.tmp 15)=_:=hp 0 15 rfl rfl;have e16:ρ (.tmp 16)=_:=hp 1 16 rfl rfl;have e23:ρ (.tmp 23)=_:=hp 8 23 rfl rfl;clear hρ hp;unfold OpRun;go_simp;(refine (WR.out _ _ ⟨a3,c3,by rw [←HM.out],by rw [←HM.out];exact n3.below hb⟩ (HT10.out.below (below_trans y1 hb))).mono ?_;rintro e wn ⟨rfl,hbn⟩;exact ⟨_,rfl,hR _ _ hbn rfl⟩))
 case o10=>(refine oQ rfl ?_;intro ρ w1 R hcon hfn hρ hb hp hR;have e24:ρ (.tmp 24)=_:=hp 9 24 rfl rfl;clear hρ hp;unfold OpRun;go_simp;exact hR _ _ (Below.refl _ _) rfl)
 case after=>
  intro u wn hb hf
  have e2:u 2=_:=hf 10 2 (by omega) rfl
  clear hf
  simp only [putAll,Act.put,List.setIfInBounds_toArray,List.set_cons_zero,List.set_cons_succ,List.drop_succ_cons,List.drop_zero,List.drop_nil]
  rw [e2]
  go_wp2_with fail
  go_ret
  exact ⟨rfl,below_trans y1 hb⟩
theorem hexFixed_ok (x mode:Int) (n:Nat) (h0:0≤x) (h1:x<18446744073709551616) (hv:hasVal x=true) (m0:0≤mode) (m1:mode≤4) (hn:n≤30) (w:World) (hT:Tab 1 w) (hT10:Tab10 w):
 Calls Tryz.prog 127 #[.int .u64 x,.int .i64 (n:Int),.int .i64 mode] w fun e w'=>e=.returned (.tuple #[.string (bsOf (hexFx x n mode)),.bool (hexFc x n),.int .i64 0])∧Below w.heap.size w w':=by
 have HV:=hid (show ∀w,Calls Tryz.prog 47 #[.int .u64 x] w fun e w'=>e=.returned (.bool true)∧w=w' from fun w=>by
  have h9:=hasValue_any x h0 h1 w
  rwa [hv] at h9)
 have KN:=hid (show ∀w,Calls Tryz.prog 78 #[.int .i64 mode] w fun e w'=>e=.returned (.bool true)∧w=w' from fun w=>by
  have h9:=hKnown_any mode w
  rwa [decide_eq_true (show 0≤mode∧mode≤4 from ⟨m0,m1⟩)] at h9)
 obtain ⟨d1,d2,d3⟩:=fv_small_h x h0 h1
 obtain ⟨-,d4,-⟩:=fv_bd x h0 h1
 have VA:=hid (fun w t=>value_any x h0 h1 w t)
 have hbl:=(bl_le (fv x).1.natAbs 53).2 d4
 have hI:=fv_isNh x
 obtain ⟨K,hK⟩: ∃K,K=hfK (fv x):=⟨_,rfl⟩
 have hKD:hfK (fv x)=(bl (fv x).1.natAbs:Int)+(fv x).2-1:=rfl
 have MU:=hid (show ∀v w,VD w (fv x) v→Tab 1 w→Calls Tryz.prog 187 #[v,.int .i64 (K-4*(n:Int)),.int .i64 mode] w (RetMp w (hfD (fv x) n mode) (hexFc x n)) from fun v w h9 t=>by
  have hc:mplC (fv x) (K-4*(n:Int))=hexFc x n:=by
   unfold hexFc hfC
   by_cases hz:(fv x).1=0
   ·rw [if_pos hz];unfold mplC mulK;rw [if_pos (decide_eq_true (.inr hz))]
   ·rw [if_neg hz,hK]
  rw [←hc]
  have hd:hfD (fv x) n mode=mplD (fv x) (K-4*(n:Int)) mode:=by rw [hK];rfl
  rw [hd]
  refine multiple_any v (fv x) (K-4*(n:Int)) mode w h9 (by omega) (by omega) (by omega) ?_ t
  obtain ⟨A,hA⟩: ∃A,A=8000:=⟨_,rfl⟩
  have hlt:cutN (decide ((fv x).1<0)) (fv x).1.natAbs (K-4*(n:Int)-(fv x).2) mode<2^A:=by
   by_cases hj:0<K-4*(n:Int)-(fv x).2
   ·have:=cutN_le_h (decide ((fv x).1<0)) (fv x).1.natAbs (K-4*(n:Int)-(fv x).2) mode hj
    have h2:(2:Nat)^53+1≤2^54:=by decide
    have h3:(2:Nat)^54≤2^A:=Nat.pow_le_pow_right (by omega) (by omega)
    omega
   ·obtain ⟨s,hs⟩: ∃s:Nat,K-4*(n:Int)-(fv x).2= -(s:Int):=⟨(-(K-4*(n:Int)-(fv x).2)).toNat,by omega⟩
    rw [hs,(cut_neg _ _ _ _).1]
    have h3:(fv x).1.natAbs*2^s<2^53*2^s:=Nat.mul_lt_mul_of_pos_right d4 (Nat.two_pow_pos s)
    rw [←Nat.pow_add] at h3
    exact Nat.lt_of_lt_of_le h3 (Nat.pow_le_pow_right (by omega) (by omega))
  exact Nat.le_trans (limbs_short1 A 300 (by omega) _ hlt) (by omega))
 have WR:=hid (show ∀v w,VD w (hfD (fv x) n mode) v→Tab10 w→Calls Tryz.prog 97 #[.int .u64 x,v,.int .i64 (n:Int)] w fun e w'=>e=.returned (.string (bsOf (hexFx x n mode)))∧Below w.heap.size w w' from fun v w hv9 ht=>by
  by_cases hz:(fv x).1=0
  ·have e:hexFx x n mode=hxZ (negB x) n:=by unfold hexFx;rw [if_pos hz]
   have hE:(hfD (fv x) n mode).1=0:=by
    unfold hfD mplD mulK
    rw [if_pos (decide_eq_true (.inr hz)),nrm_eq_zero _ _ hz]
   rw [e]
   exact writeZ_any x h0 h1 v _ n w hv9 hE (by omega)
  ·obtain ⟨e1,e2,e3,e4,e5⟩:=hf_main (fv x) n mode hI hz
   have e:hexFx x n mode=hxT (negB x) n (hfM (hfD (fv x) n mode) n) (hfK (hfD (fv x) n mode)):=by
    unfold hexFx;rw [if_neg hz];rfl
   rw [e]
   have hKE:hfK (hfD (fv x) n mode)=(bl (hfD (fv x) n mode).1.natAbs:Int)+(hfD (fv x) n mode).2-1:=rfl
   generalize hfD (fv x) n mode=E at *
   have hE1:E.1.natAbs<2^54:=by
    have:(2:Nat)^54=2*2^53:=by decide
    omega
   have hbE:=(bl_le E.1.natAbs 54).2 hE1
   have lE:=limbs_short1 54 100 (by omega) E.1.natAbs hE1
   exact write_any x h0 h1 v E n (hfK E) (E.2-hfK E+4*(n:Int)).toNat (hfM E n) w hv9 e1 lE (by omega) (by omega) hKE (by omega) rfl ht)
 have LN:=hid (fun a c w h=>natLen_any a c (fv x).1.natAbs w h (by omega))
 generalize hexFx x n mode=T at *
 generalize hexFc x n=C at *
 generalize hfD (fv x) n mode=E at *
 rw [←hK] at hKD
 clear hK
 generalize fv x=D at *
 obtain ⟨M,hM⟩: ∃M,M=D.1.natAbs:=⟨_,rfl⟩
 obtain ⟨b,hb9⟩: ∃b,b=bl M:=⟨_,rfl⟩
 rw [←hM] at LN hbl hKD
 have HM:=hid hM
 clear hM
 rw [←hb9] at LN hbl hKD
 have hKK:(b:Int)+D.2-1=K:=by omega
 have hw1:IntKind.i64.wrap ((b:Int)+D.2)=(b:Int)+D.2:=IntWalk.i64_in _ (by omega)
 have hw2:IntKind.i64.wrap K=K:=IntWalk.i64_in _ (by omega)
 have hw3:IntKind.i64.wrap (4*(n:Int))=4*(n:Int):=IntWalk.i64_in _ (by omega)
 have hw4:IntKind.i64.wrap (K-4*(n:Int))=K-4*(n:Int):=IntWalk.i64_in _ (by omega)
 have hp1: ¬(n:Int)<0:=by omega
 have hp2: ¬30<(n:Int):=by omega
 have HT:=hid hT
 have HT10:=hid hT10
 clear hT hT10 hv hb9 hKD h0 h1 m0 m1 hI
 go_enter Tryz.func127,Tryz.ntmps127
 go_upto_region 6 with (first
  |(go_at_call 47;(with_reducible refine (HV.out _).mono ?_);rintro en w1 ⟨rfl,rfl⟩)
  |(go_at_call 78;(with_reducible refine (KN.out _).mono ?_);rintro en w1 ⟨rfl,rfl⟩)
  |(go_at_call 96;(with_reducible refine (VA.out _ HT.out).mono ?_);rintro en w2 ⟨v3,rfl,⟨a3,c3,rfl,hN3⟩,hb2⟩))
 rw [←HM.out] at hN3 ⊢
 refine wp_worldZ (fun WW=>Below w.heap.size w WW∧QL 67 WW w2.heap.size (decide (D.1<0)) (.slice a3 (limbs M).length c3) D.2∧Ns .u32 WW a3 c3 (limbs M)) ⟨below_trans hb2 (below_alloc _ _),QL.made rfl,hN3.below (below_alloc _ _)⟩ ?_
 intro W1 ⟨y1,q9,n3⟩
 obtain ⟨g9,hg9⟩: ∃g,g=w2.heap.size:=⟨_,rfl⟩
 have b9:w.heap.size≤g9:=by rw [hg9];exact hb2.size
 rw [←hg9] at q9 ⊢
 clear hg9 hN3 hb2 VA
 refine wp_region_growL 16 15 [28,29,30,31,32,33,34,35,36,37,38,39,40,27,41,42] [Fact.is (.agg #[.bool (decide (D.1<0)),.slice a3 (limbs M).length c3,.int .i64 D.2]),Fact.is (.pointer (some ⟨g9,1,none⟩)),Fact.is (.slice a3 (limbs M).length c3),Fact.is (.int .i64 (b:Int)),Fact.is (.pointer (some ⟨g9,2,none⟩)),Fact.is (.int .i64 D.2),Fact.is (.int .i64 ((b:Int)+D.2)),Fact.is (.int .i64 K),Fact.is (.int .i64 (n:Int)),Fact.is (.int .i64 (4*(n:Int))),Fact.is (.int .i64 (K-4*(n:Int))),Fact.is (.int .i64 mode),Fact.hmp E C,Fact.hmp E C,Fact.vd E,Fact.is (.bool C)] [] (by kernel_rfl) (by kernel_rfl) rfl ⟨?o0,?o1,?o2,?o3,?o4,?o5,?o6,?o7,?o8,?o9,?o10,?o11,?o12,?o13,?o14,?o15,trivial⟩ ?late (fun d _ _ _ _ h=>by cases d<;>exact h) ?after
 case o0=>(refine oQF rfl ?_;intro ρ w1 R hcon hfn hρ hb hp hR;have e9:ρ (.tmp 9)=.pointer (some ⟨g9,0,none⟩):=hρ.tmp 9 rfl;obtain ⟨⟨j0,j1,-⟩,j2,-⟩:=q9.below hb;replace hR:=fun v w2 h1 h2=>hR v w2 h1 h2 (fun h=>absurd h (by decide));clear hρ hp;unfold OpRun;go_simp;exact hR _ _ (Below.refl _ _) rfl)
 case o1=>(refine oQF rfl ?_;intro ρ w1 R hcon hfn hρ hb hp hR;have e9:ρ (.tmp 9)=.pointer (some ⟨g9,0,none⟩):=hρ.tmp 9 rfl;replace hR:=fun v w2 h1 h2=>hR v w2 h1 h2 (fun h=>absurd h (by decide));clear hρ hp;unfold OpRun;go_simp;exact hR _ _ (Below.refl _ _) rfl)
 case o2=>(refine oQF rfl ?_;intro ρ w1 R hcon hfn hρ hb hp hR;have e29:ρ (.tmp 29)=_:=hp 1 29 rfl rfl;obtain ⟨⟨j0,j1,-⟩,j2,-⟩:=q9.below hb;replace hR:=fun v w2 h1 h2=>hR v w2 h1 h2 (fun h=>absurd h (by decide));clear hρ hp;unfold OpRun;go_simp;exact hR _ _ (Below.refl _ _) rfl)
 case o3=>(refine oQF rfl ?_;intro ρ w1 R hcon hfn hρ hb hp hR;have e30:ρ (.tmp 30)=_:=hp 2 30 rfl rfl;replace hR:=fun v w2 h1 h2=>hR v w2 h1 h2 (fun h=>absurd h (by decide));clear hρ hp;unfold OpRun;go_simp;(refine (LN.out _ _ _ (n3.below hb)).mono ?_;rintro e wn ⟨rfl,rfl⟩;exact ⟨_,rfl,hR _ _ (Below.refl _ _) rfl⟩))
 case o4=>(refine oQF rfl ?_;intro ρ w1 R hcon hfn hρ hb hp hR;have e9:ρ (.tmp 9)=.pointer (some ⟨g9,0,none⟩):=hρ.tmp 9 rfl;replace hR:=fun v w2 h1 h2=>hR v w2 h1 h2 (fun h=>absurd h (by decide));clear hρ hp;unfold OpRun;go_simp;exact hR _ _ (Below.refl _ _) rfl)
 case o5=>(refine oQF rfl ?_;intro ρ w1 R hcon hfn hρ hb hp hR;have e32:ρ (.tmp 32)=_:=hp 4 32 rfl rfl;obtain ⟨⟨j0,j1,-⟩,j2,-⟩:=q9.below hb;replace hR:=fun v w2 h1 h2=>hR v w2 h1 h2 (fun h=>absurd h (by decide));clear hρ hp;unfold OpRun;go_simp;exact hR _ _ (Below.refl _ _) rfl)
 case o6=>(refine oQF rfl ?_;intro ρ w1 R hcon hfn hρ hb hp hR;have e31:ρ (.tmp 31)=_:=hp 3 31 rfl rfl;have e33:ρ (.tmp 33)=_:=hp 5 33 rfl rfl;replace hR:=fun v w2 h1 h2=>hR v w2 h1 h2 (fun h=>absurd h (by decide));clear hρ hp;unfold OpRun;go_simp;exact hR _ _ (Below.refl _ _) rfl)
 case o7=>(refine oQF rfl ?_;intro ρ w1 R hcon hfn hρ hb hp hR;have e34:ρ (.tmp 34)=_:=hp 6 34 rfl rfl;replace hR:=fun v w2 h1 h2=>hR v w2 h1 h2 (fun h=>absurd h (by decide));clear hρ hp;unfold OpRun;go_simp;exact hR _ _ (Below.refl _ _) rfl)
 case o8=>(refine oQF rfl ?_;intro ρ w1 R hcon hfn hρ hb hp hR;have e1:ρ (.tmp 1)=.int .i64 (n:Int):=hρ.tmp 1 rfl;replace hR:=fun v w2 h1 h2=>hR v w2 h1 h2 (fun h=>absurd h (by decide));clear hρ hp;unfold OpRun;go_simp;exact hR _ _ (Below.refl _ _) rfl)
 case o9=>(refine oQF rfl ?_;intro ρ w1 R hcon hfn hρ hb hp hR;have e36:ρ (.tmp 36)=_:=hp 8 36 rfl rfl;replace hR:=fun v w2 h1 h2=>hR v w2 h1 h2 (fun h=>absurd h (by decide));clear hρ hp;unfold OpRun;go_simp;exact hR _ _ (Below.refl _ _) rfl)
 case o10=>(refine oQF rfl ?_;intro ρ w1 R hcon hfn hρ hb hp hR;have e35:ρ (.tmp 35)=_:=hp 7 35 rfl rfl;have e37:ρ (.tmp 37)=_:=hp 9 37 rfl rfl;replace hR:=fun v w2 h1 h2=>hR v w2 h1 h2 (fun h=>absurd h (by decide));clear hρ hp;unfold OpRun;go_simp;exact hR _ _ (Below.refl _ _) rfl)
 case o11=>(refine oQF rfl ?_;intro ρ w1 R hcon hfn hρ hb hp hR;have e2:ρ (.tmp 2)=.int .i64 mode:=hρ.tmp 2 rfl;replace hR:=fun v w2 h1 h2=>hR v w2 h1 h2 (fun h=>absurd h (by decide));clear hρ hp;unfold OpRun;go_simp;exact hR _ _ (Below.refl _ _) rfl)
 case o12=>(refine oQF rfl ?_;intro ρ w1 R hcon hfn hρ hb hp hR;have e28:ρ (.tmp 28)=_:=hp 0 28 rfl rfl;have e38:ρ (.tmp 38)=_:=hp 10 38 rfl rfl;have e39:ρ (.tmp 39)=_:=hp 11 39 rfl rfl;replace hR:=fun v w2 h1 h2=>hR v w2 h1 h2 (fun h=>absurd h (by decide));clear hρ hp;unfold OpRun;go_simp;(refine (MU.out _ _ ⟨a3,c3,by rw [←HM.out],by rw [←HM.out];exact n3.below hb⟩ (HT.out.below (below_trans y1 hb))).mono ?_;rintro e wn ⟨v9,rfl,hv9,hbn⟩;exact ⟨_,rfl,hR _ _ hbn ⟨v9,rfl,hv9⟩⟩))
 case o13=>(refine oQF rfl ?_;intro ρ w1 R hcon hfn hρ hb hp hR;have f40:=hp 12 40 rfl rfl;replace hR:=fun v w2 h1 h2=>hR v w2 h1 h2 (fun h=>absurd h (by decide));clear hρ hp;unfold OpRun;go_simp;exact hR _ _ (Below.refl _ _) f40)
 case o14=>(refine oQF rfl ?_;intro ρ w1 R hcon hfn hρ hb hp hR;have f27:=hp 13 27 rfl rfl;replace hR:=fun v w2 h1 h2=>hR v w2 h1 h2 (fun h=>absurd h (by decide));clear hρ hp;unfold OpRun;go_simp;(obtain ⟨u9,e24,hv9⟩:=f27;rw [e24];exact hR _ _ (Below.refl _ _) hv9))
 case o15=>(refine oQF rfl ?_;intro ρ w1 R hcon hfn hρ hb hp hR;have f27:=hp 13 27 rfl rfl;obtain ⟨u9,e24,hv9⟩:=f27;replace hR:=fun v w2 h1 h2=>hR v w2 h1 h2 (fun h=>absurd h (by decide));clear hρ hp;unfold OpRun;go_simp;exact hR _ _ (Below.refl _ _) rfl)
 case late=>
  intro o ho
  simp only [List.getElem?_cons_succ,List.getElem?_cons_zero,Option.some.injEq] at ho
  subst ho
  refine ⟨rfl,?_⟩
  intro ρ w1 hρ hb hp
  have f27:=hp 13 27 rfl rfl
  obtain ⟨u9,e24,hv9⟩:=f27
  refine ⟨_,?_,rfl⟩
  intro w2
  have hcon:=hρ.con
  go_simp
  try rfl
 case after=>
  intro u wn hb hf hd
  have f41:=hf 14 41 (by omega) rfl
  have e42:u 42=_:=hf 15 42 (by omega) rfl
  clear hf hd
  simp only [putAll,Act.put,List.setIfInBounds_toArray,List.set_cons_zero,List.set_cons_succ,List.drop_succ_cons,List.drop_zero,List.drop_nil]
  rw [e42]
  obtain ⟨aS,cS,e41,hNS⟩:=f41
  rw [e41]
  have zD2:=q9.below hb
  obtain ⟨⟨k0,k1,f0,f1,hs2⟩,k2,f2⟩:=id zD2
  have zS:=zD2.put (decide (E.1<0)) (.slice aS (limbs E.1.natAbs).length cS) E.2
  have hNS2:=hNS.set3 zD2 (by intro x h;cases h) (.bool (decide (E.1<0))) (.slice aS (limbs E.1.natAbs).length cS) (.int .i64 E.2)
  have yb2:=Go.Ulp.Below.put3 (below_trans y1 hb) (g:=g9) (by omega) (.bool (decide (E.1<0))) (.slice aS (limbs E.1.natAbs).length cS) (.int .i64 E.2)
  clear e41
  go_upto_region 7 with fail
  obtain ⟨W2,hW2⟩: ∃Y,Y=((wn.setCell ⟨g9,0,none⟩ (.bool (decide (E.1<0)))).setCell ⟨g9,1,none⟩ (.slice aS (limbs E.1.natAbs).length cS)).setCell ⟨g9,2,none⟩ (.int .i64 E.2):=⟨_,rfl⟩
  rw [←hW2] at zS hNS2 yb2 ⊢
  clear hW2 k0 k1 f0 f1 hs2 k2 f2 zD2 q9 hNS hb hw1
  obtain ⟨⟨j0,j1,-⟩,j2,-⟩:=id zS
  have WR2:=hid (fun w (h:Ns .u32 w aS cS (limbs E.1.natAbs)) t=>WR.out _ w ⟨aS,cS,rfl,h⟩ t)
  go_wp2_with (go_at_call 97;(with_reducible refine (WR2.out _ hNS2 (HT10.out.below yb2)).mono ?_);rintro en w3 ⟨rfl,hb3⟩)
  go_ret3
  exact ⟨rfl,below_trans yb2 hb3⟩
end Go.Proofs.YtfphmlmgjhebjaaGreatDoor
namespace Go.Ulp
open Go.RowKit
theorem eight_ten (k:Nat):2^(3*k)≤10^k:=by rw [Nat.pow_mul];exact Nat.pow_le_pow_left (by decide) k
theorem dsh_len (neg:Bool) (L:List UInt8):(dsh neg L).length≤L.length+1:=by unfold dsh;split<;>simp
theorem dA_bd (x:Int) (h0:0≤x) (h1:x<18446744073709551616) (A:Nat) (hA:A=1077):dA (fv x)<2^A:=by
 obtain ⟨-,a,b,c⟩:=fv_bd x h0 h1
 unfold dA
 obtain ⟨C,hC⟩: ∃C,C=1024:=⟨_,rfl⟩
 have h2:2^(fv x).2.toNat≤2^C:=Nat.pow_le_pow_right (by omega) (by omega)
 rw [show A=53+C by omega,Nat.pow_add]
 have h3:(fv x).1.natAbs*2^(fv x).2.toNat≤(fv x).1.natAbs*2^C:=Nat.mul_le_mul_left _ h2
 have h4:(fv x).1.natAbs*2^C<2^53*2^C:=Nat.mul_lt_mul_of_pos_right a (Nat.two_pow_pos C)
 omega
theorem fxT_len (x mode:Int) (p:Nat) (h0:0≤x) (h1:x<18446744073709551616) (hp:p≤1100):(fxT x p mode).length≤3000:=by
 unfold fxT
 have a:=dsh_len (negB x) (ptd (decD (fxN x p mode)) p)
 have b:=ptd_len (decD (fxN x p mode)) p
 obtain ⟨K,hK⟩: ∃K,K=360:=⟨_,rfl⟩
 have c:(decD (fxN x p mode)).length≤K+p+1:=by
  refine decD_len _ _ ?_
  unfold fxN
  have d:=(rtN_ge (negB x) (dA (fv x)*tnN (p:Int)) (dB (fv x)*tnN (-(p:Int))) mode).2
  have e:tnN (p:Int)=10^p:=by unfold tnN;simp
  rw [e] at d
  obtain ⟨A,hA⟩: ∃A,A=1077:=⟨_,rfl⟩
  have f:=dA_bd x h0 h1 A hA
  have g:2^A≤10^K:=Nat.le_trans (Nat.pow_le_pow_right (by omega) (by omega:A≤3*K)) (eight_ten K)
  have h:dA (fv x)*10^p/(dB (fv x)*tnN (-(p:Int)))≤dA (fv x)*10^p:=Nat.div_le_self _ _
  have i:dA (fv x)*10^p<10^K*10^p:=Nat.mul_lt_mul_of_pos_right (by omega) (Nat.pow_pos (by omega))
  rw [←Nat.pow_add] at i
  rw [Nat.pow_succ,e]
  omega
 omega
end Go.Ulp
namespace Go.Proofs.YtfphmlmgjhebjaaGreatDoor
open Go.RowKit Go.Ulp
set_option maxHeartbeats 4000000
set_option maxRecDepth 100000
theorem signW_any (x:Int) (h0:0≤x) (h1:x<18446744073709551616) (verb wd pr:Int) (mi pl bl ze al:Bool) (w:World):
 Calls Tryz.prog 67 #[.agg #[.int .i64 verb,.bool mi,.bool pl,.bool bl,.bool ze,.bool al,.int .i64 wd,.int .i64 pr],.int .u64 x] w fun e w'=>e=.returned (.string (bsOf (sgW x pl bl)))∧Below w.heap.size w w':=by
 have CL:=hid (fun w=>class_any x h0 h1 w)
 have HR:=hid (show sgW x pl bl=if negB x=true∧classOf x≠5 then [45] else if pl=true then [43] else if bl=true then [32] else [] from rfl)
 generalize sgW x pl bl=R at *
 obtain ⟨c,hc⟩: ∃c,c=classOf x:=⟨_,rfl⟩
 rw [←hc] at CL HR
 clear hc
 have hs:x/9223372036854775808=if 9223372036854775808≤x then 1 else 0:=by split<;>omega
 by_cases hn:9223372036854775808≤x
 ·rw [if_pos hn] at hs
  have e1:negB x=true:=decide_eq_true hn
  rw [e1] at HR
  by_cases h5:c=5
  ·have b5:(c !=5)=false:=by rw [h5];rfl
   have HR2:=HR.out
   rw [if_neg (fun h=>h.2 h5)] at HR2
   have HR3:=hid HR2
   clear HR HR2 h5 e1
   cases pl
   ·cases bl
    ·go_enter Tryz.func67,Tryz.ntmps67
     go_wp2_with (go_at_call 33;(with_reducible refine (CL.out _).mono ?_);rintro en w1 ⟨rfl,rfl⟩)
     go_ret
     exact ⟨by rw [HR3.out];rfl,by (repeat' first|(with_reducible first|apply bR|assumption|apply bN|apply bD|apply bL|apply bS)|go_size)⟩
    ·go_enter Tryz.func67,Tryz.ntmps67
     go_wp2_with (go_at_call 33;(with_reducible refine (CL.out _).mono ?_);rintro en w1 ⟨rfl,rfl⟩)
     go_ret
     exact ⟨by rw [HR3.out];rfl,by (repeat' first|(with_reducible first|apply bR|assumption|apply bN|apply bD|apply bL|apply bS)|go_size)⟩
   ·go_enter Tryz.func67,Tryz.ntmps67
    go_wp2_with (go_at_call 33;(with_reducible refine (CL.out _).mono ?_);rintro en w1 ⟨rfl,rfl⟩)
    go_ret
    exact ⟨by rw [HR3.out];rfl,by (repeat' first|(with_reducible first|apply bR|assumption|apply bN|apply bD|apply bL|apply bS)|go_size)⟩
  ·have b5:(c !=5)=true:=by simpa using h5
   have HR2:=HR.out
   rw [if_pos ⟨rfl,h5⟩] at HR2
   have HR3:=hid HR2
   clear HR HR2 h5 e1
   go_enter Tryz.func67,Tryz.ntmps67
   go_wp2_with (go_at_call 33;(with_reducible refine (CL.out _).mono ?_);rintro en w1 ⟨rfl,rfl⟩)
   go_ret
   exact ⟨by rw [HR3.out];rfl,by (repeat' first|(with_reducible first|apply bR|assumption|apply bN|apply bD|apply bL|apply bS)|go_size)⟩
 ·rw [if_neg hn] at hs
  have e1:negB x=false:=decide_eq_false hn
  rw [e1] at HR
  have HR2:=HR.out
  rw [if_neg (fun h=>by cases h.1)] at HR2
  have HR3:=hid HR2
  clear HR HR2 e1
  cases pl
  ·cases bl
   ·go_enter Tryz.func67,Tryz.ntmps67
    go_wp2_with fail
    go_ret
    exact ⟨by rw [HR3.out];rfl,by (repeat' first|(with_reducible first|apply bR|assumption|apply bN|apply bD|apply bL|apply bS)|go_size)⟩
   ·go_enter Tryz.func67,Tryz.ntmps67
    go_wp2_with fail
    go_ret
    exact ⟨by rw [HR3.out];rfl,by (repeat' first|(with_reducible first|apply bR|assumption|apply bN|apply bD|apply bL|apply bS)|go_size)⟩
  ·go_enter Tryz.func67,Tryz.ntmps67
   go_wp2_with fail
   go_ret
   exact ⟨by rw [HR3.out];rfl,by (repeat' first|(with_reducible first|apply bR|assumption|apply bN|apply bD|apply bL|apply bS)|go_size)⟩
end Go.Proofs.YtfphmlmgjhebjaaGreatDoor
namespace Go.Ulp
open Go.RowKit
theorem scP_bd (x:Int) (k:Nat) (pd mode:Int) (h: -1200≤pd∧pd≤1200): -1201≤scP x k pd mode∧scP x k pd mode≤1201:=by
 unfold scP sciP
 split
 ·omega
 ·split<;>omega
theorem scT_len (x mode pd:Int) (k:Nat) (hk:k<800) (hp:(fv x).1≠0→IsDec (dA (fv x)) (dB (fv x)) pd) (hb: -1200≤pd∧pd≤1200):(scT x k pd mode).length≤3000:=by
 unfold scT
 have a:=dsh_len (negB x) (ptd (scS x k pd mode) k++101::pwrT (scP x k pd mode))
 have b:=ptd_len (scS x k pd mode) k
 have c:=(scS_pad x k pd mode hp).2
 have d:=scP_bd x k pd mode hb
 have e:(pwrT (scP x k pd mode)).length≤10:=by
  unfold pwrT
  have f:=decD_len 3 (scP x k pd mode).natAbs (by omega)
  rw [List.length_cons,List.length_append]
  split<;>simp<;>omega
 rw [List.length_append,List.length_cons] at a
 omega
def gnS (x:Int) (k:Nat) (pd:Int):List UInt8:=if -4≤scP x k pd 0∧scP x k pd 0<(k:Int)+1 then fxT x ((k:Int)-scP x k pd 0).toNat 0 else scT x k pd 0
def gnT (al:Bool) (x:Int) (k:Nat) (pd:Int):List UInt8:=if al=true then gnS x k pd else wzT (gnS x k pd)
end Go.Ulp
namespace Go.Proofs.YtfphmlmgjhebjaaGreatDoor
open Go.RowKit Go.Ulp
set_option maxHeartbeats 8000000
set_option maxRecDepth 100000
theorem generalW_any (x:Int) (h0:0≤x) (h1:x<18446744073709551616) (hv:hasVal x=true) (verb wd pr:Int) (mi pl bl ze al:Bool) (p k:Nat) (hk:k+1=max p 1) (hp:p≤200) (pd:Int) (hd:(fv x).1≠0→IsDec (dA (fv x)) (dB (fv x)) pd) (hpb: -1200≤pd∧pd≤1200) (w:World) (hT:Tab 1 w) (hT10:Tab10 w):
 Calls Tryz.prog 126 #[.agg #[.int .i64 verb,.bool mi,.bool pl,.bool bl,.bool ze,.bool al,.int .i64 wd,.int .i64 pr],.int .u64 x,.int .i64 (p:Int)] w fun e w'=>e=.returned (.string (bsOf (gnT al x k pd)))∧Below w.heap.size w w':=by
 have DX:=hid (fun (W:World) (v:Value) (h:VD W (fv x) v) (t:Tab10 W)=>digitsX_any x h0 h1 v k 0 pd W h hd ⟨by omega,by omega⟩ (by omega) t)
 have VA:=hid (fun W t=>value_any x h0 h1 W t)
 obtain ⟨e,he⟩: ∃e,e=scP x k pd 0:=⟨_,rfl⟩
 have eb:=scP_bd x k pd 0 hpb
 rw [←he] at DX eb
 have hG:gnS x k pd=if -4≤e∧e<(k:Int)+1 then fxT x ((k:Int)-e).toNat 0 else scT x k pd 0:=by rw [he];rfl
 have lG:(gnS x k pd).length≤1000000:=by
  rw [hG];split
  ·have:=fxT_len x 0 ((k:Int)-e).toNat h0 h1 (by omega);omega
  ·have:=scT_len x 0 pd k (by omega) hd hpb;omega
 have SW:=hid (fun W=>shortW_any (gnS x k pd) W lG)
 have HR:=hid (show gnT al x k pd=if al=true then gnS x k pd else wzT (gnS x k pd) from rfl)
 generalize gnT al x k pd=RR at *
 obtain ⟨G,hGG⟩: ∃G,G=gnS x k pd:=⟨_,rfl⟩
 rw [←hGG] at hG SW HR
 have FX:Hid (-4≤e∧e<(k:Int)+1→ ∀W,Tab 1 W→Tab10 W→Calls Tryz.prog 124 #[.int .u64 x,.int .i64 ((k:Int)-e),.int .i64 0] W fun en w'=>(∃b:Bool,en=.returned (.tuple #[.string (bsOf G),.bool b,.int .i64 0]))∧Below W.heap.size W w'):=hid (fun hh W t u=>by
  have:=fixedP_ok x 0 ((k:Int)-e).toNat h0 h1 hv (by omega) (by omega) (by omega) W t u
  rw [show (((k:Int)-e).toNat:Int)=(k:Int)-e by omega] at this
  rw [if_pos hh] at hG
  rw [←hG] at this
  exact this.mono (by rintro en w' ⟨rfl,hb⟩;exact ⟨⟨_,rfl⟩,hb⟩))
 have SX:Hid (¬(-4≤e∧e<(k:Int)+1)→ ∀W,Tab 1 W→Tab10 W→Calls Tryz.prog 125 #[.int .u64 x,.int .i64 ((k:Int)+1),.int .i64 0] W fun en w'=>(∃b:Bool,en=.returned (.tuple #[.string (bsOf G),.bool b,.int .i64 0]))∧Below W.heap.size W w'):=hid (fun hh W t u=>by
  have:=sciP_ok x 0 pd k h0 h1 hv (by omega) (by omega) (by omega) hd ⟨by omega,by omega⟩ W t u
  rw [if_neg hh] at hG
  rw [←hG] at this
  exact this.mono (by rintro en w' ⟨rfl,hb⟩;exact ⟨⟨_,rfl⟩,hb⟩))
 have hmx:max (p:Int) 1=(k:Int)+1:=by omega
 have w1:IntKind.i64.wrap ((k:Int)+1-1)=(k:Int):=by rw [IntWalk.i64_in _ (by omega)];omega
 have w2:IntKind.i64.wrap ((k:Int)-e)=(k:Int)-e:=IntWalk.i64_in _ (by omega)
 have HT:=hid hT
 have HT10:=hid hT10
 clear hT hT10 hd hpb hG lG hGG he h0 h1 hv
 go_enter Tryz.func126,Tryz.ntmps126
 go_wp2_with fail
 refine (VA.out _ (HT.out.below (by (repeat' first|(with_reducible first|assumption|apply bR|apply bA|apply bN|apply bD|apply bL|apply bS)|refine bT ?_ (by assumption)|go_size)))).mono ?_
 rintro en w3 ⟨v3,rfl,hvd,hb3⟩
 have yb3:Below w.heap.size w w3:=by (repeat' first|(with_reducible first|assumption|apply bR|apply bA|apply bN|apply bD|apply bL|apply bS)|refine bT ?_ (by assumption)|go_size)
 have zF:w3.cell? ⟨w.heap.size,5,none⟩=some (.bool al):=by
  refine (hb3.cell (p:=⟨w.heap.size,5,none⟩) (by simp)).trans ?_
  rw [World.cell?_alloc_at (hn:=rfl)];rfl
 go_wp2_with fail
 refine (DX.out _ _ hvd (HT10.out.below yb3)).mono ?_
 rintro en w4 ⟨rfl,hb4⟩
 have yb4:Below w.heap.size w w4:=by (repeat' first|(with_reducible first|assumption|apply bR|apply bA|apply bN|apply bD|apply bL|apply bS)|refine bT ?_ (by assumption)|go_size)
 have zF4:=(hb4.cell (p:=⟨w.heap.size,5,none⟩) (World.block_lt_of_cell? _ _ zF)).trans zF
 clear zF hvd hb3 hb4 DX VA
 go_upto_region 4 with fail
 by_cases hc1: -4≤e
 ·by_cases hc2:e<(k:Int)+1
  ·have FF:=hid (FX.out ⟨hc1,hc2⟩ w4 (HT.out.below yb4) (HT10.out.below yb4))
   clear FX SX
   go_upto_region 7 with (go_at_call 124;(with_reducible refine (FF.out).mono ?_);rintro en w5 ⟨⟨b5,rfl⟩,hb5⟩)
   have zF5:=(hb5.cell (p:=⟨w.heap.size,5,none⟩) (World.block_lt_of_cell? _ _ zF4)).trans zF4
   have yb5:=below_trans yb4 hb5
   clear zF4 hb5 FF
   cases al
   ·have HR2:=hid (show RR=wzT G from HR.out)
    clear HR
    go_wp2_with (go_at_call 186;(with_reducible refine (SW.out _).mono ?_);rintro en w6 ⟨rfl,rfl⟩)
    go_ret
    exact ⟨by rw [HR2.out];rfl,by (repeat' first|(with_reducible first|assumption|apply bR|apply bA|apply bN|apply bD|apply bL|apply bS)|refine bT ?_ (by assumption)|go_size)⟩
   ·have HR2:=hid (show RR=G from HR.out)
    clear HR
    go_wp2_with fail
    go_ret
    exact ⟨by rw [HR2.out];rfl,by (repeat' first|(with_reducible first|assumption|apply bR|apply bA|apply bN|apply bD|apply bL|apply bS)|refine bT ?_ (by assumption)|go_size)⟩
  ·have FF:=hid (SX.out (fun h=>hc2 h.2) w4 (HT.out.below yb4) (HT10.out.below yb4))
   clear FX SX
   go_upto_region 7 with (go_at_call 125;(with_reducible refine (FF.out).mono ?_);rintro en w5 ⟨⟨b5,rfl⟩,hb5⟩)
   have zF5:=(hb5.cell (p:=⟨w.heap.size,5,none⟩) (World.block_lt_of_cell? _ _ zF4)).trans zF4
   have yb5:=below_trans yb4 hb5
   clear zF4 hb5 FF
   cases al
   ·have HR2:=hid (show RR=wzT G from HR.out)
    clear HR
    go_wp2_with (go_at_call 186;(with_reducible refine (SW.out _).mono ?_);rintro en w6 ⟨rfl,rfl⟩)
    go_ret
    exact ⟨by rw [HR2.out];rfl,by (repeat' first|(with_reducible first|assumption|apply bR|apply bA|apply bN|apply bD|apply bL|apply bS)|refine bT ?_ (by assumption)|go_size)⟩
   ·have HR2:=hid (show RR=G from HR.out)
    clear HR
    go_wp2_with fail
    go_ret
    exact ⟨by rw [HR2.out];rfl,by (repeat' first|(with_reducible first|assumption|apply bR|apply bA|apply bN|apply bD|apply bL|apply bS)|refine bT ?_ (by assumption)|go_size)⟩
 ·have FF:=hid (SX.out (fun h=>hc1 h.1) w4 (HT.out.below yb4) (HT10.out.below yb4))
  clear FX SX
  go_upto_region 7 with (go_at_call 125;(with_reducible refine (FF.out).mono ?_);rintro en w5 ⟨⟨b5,rfl⟩,hb5⟩)
  have zF5:=(hb5.cell (p:=⟨w.heap.size,5,none⟩) (World.block_lt_of_cell? _ _ zF4)).trans zF4
  have yb5:=below_trans yb4 hb5
  clear zF4 hb5 FF
  cases al
  ·have HR2:=hid (show RR=wzT G from HR.out)
   clear HR
   go_wp2_with (go_at_call 186;(with_reducible refine (SW.out _).mono ?_);rintro en w6 ⟨rfl,rfl⟩)
   go_ret
   exact ⟨by rw [HR2.out];rfl,by (repeat' first|(with_reducible first|assumption|apply bR|apply bA|apply bN|apply bD|apply bL|apply bS)|refine bT ?_ (by assumption)|go_size)⟩
  ·have HR2:=hid (show RR=G from HR.out)
   clear HR
   go_wp2_with fail
   go_ret
   exact ⟨by rw [HR2.out];rfl,by (repeat' first|(with_reducible first|assumption|apply bR|apply bA|apply bN|apply bD|apply bL|apply bS)|refine bT ?_ (by assumption)|go_size)⟩
end Go.Proofs.YtfphmlmgjhebjaaGreatDoor
