/- TopTold: what the proof leans on, part 12 (Tx10 Sy1 Sy2). -/
import Derived.Test.YtfphmlmgjhebjaaGreatDoorKTopTold8
import Derived.Test.YtfphmlmgjhebjaaGreatDoorKTopTold10
import Derived.Test.YtfphmlmgjhebjaaGreatDoorKTopTold11
set_option linter.unusedVariables false
set_option linter.unusedSimpArgs false
namespace Go.Ulp
open Go.RowKit
theorem less_dec {a b:Nat} {p:Int} (h:IsDec a b p) (c:Int):lessT a b c=decide (p<c):=by
 by_cases h1:p<c
 ·rw [decide_eq_true h1]
  have:=lessT_le a b (p+1) (c-(p+1)).toNat h.2
  rwa [show p+1+((c-(p+1)).toNat:Int)=c by omega] at this
 ·rw [decide_eq_false h1]
  cases hh:lessT a b c with
  |false=>rfl
  |true=>
   have:=lessT_le a b c (p-c).toNat hh
   rw [show c+((p-c).toNat:Int)=p by omega,h.1] at this
   cases this
theorem less_low (a b:Nat) (N:Nat) (ha:0<a) (hb:b<2^N) (p:Int) (hp:p≤ -(N:Int)):lessT a b p=false:=by
 refine decide_eq_false ?_
 unfold tnN
 rw [show p.toNat=0 by omega,Nat.pow_zero,Nat.mul_one]
 have h1:(2:Nat)^N≤10^N:=Nat.pow_le_pow_left (by omega) N
 have h2:(10:Nat)^N≤10^(-p).toNat:=Nat.pow_le_pow_right (by omega) (by omega)
 have h3:10^(-p).toNat≤a*10^(-p).toNat:=Nat.le_mul_of_pos_left _ ha
 omega
theorem less_high (a b:Nat) (N:Nat) (hb:0<b) (ha:a<2^N) (p:Int) (hp:(N:Int)≤p):lessT a b p=true:=by
 refine decide_eq_true ?_
 unfold tnN
 rw [show (-p).toNat=0 by omega,Nat.pow_zero,Nat.mul_one]
 have h1:(2:Nat)^N≤10^N:=Nat.pow_le_pow_left (by omega) N
 have h2:(10:Nat)^N≤10^p.toNat:=Nat.pow_le_pow_right (by omega) (by omega)
 have h3:10^p.toNat≤b*10^p.toNat:=Nat.le_mul_of_pos_left _ hb
 omega
theorem dec_exists (a b N:Nat) (h0:0<a) (h1:0<b) (ha:a<2^N) (hb:b<2^N): ∃p:Int,IsDec a b p∧ -(N:Int)≤p∧p<N:=by
 have key: ∀k:Nat,lessT a b (-(N:Int)+k)=false∨ ∃p:Int,IsDec a b p∧ -(N:Int)≤p∧p< -(N:Int)+k:=by
  intro k
  induction k with
  |zero=>left;exact less_low a b N h0 hb _ (by omega)
  |succ k ih=>
   rcases ih with h|⟨p,h2,h3,h4⟩
   ·cases hh:lessT a b (-(N:Int)+((k+1:Nat):Int)) with
    |false=>left;rfl
    |true=>
     right
     refine ⟨-(N:Int)+k,⟨h,?_⟩,by omega,by omega⟩
     rwa [show -(N:Int)+(k:Int)+1= -(N:Int)+((k+1:Nat):Int) by omega]
   ·exact .inr ⟨p,h2,h3,by omega⟩
 rcases key (2*N) with h|⟨p,h2,h3,h4⟩
 ·have:=less_high a b N h1 ha (-(N:Int)+((2*N:Nat):Int)) (by omega)
  rw [h] at this;cases this
 ·exact ⟨p,h2,h3,by omega⟩
theorem tdiv_bd (a:Int) (h: -90309000≤a∧a≤90309000): -904≤a.tdiv 100000∧a.tdiv 100000≤904:=by
 rcases Int.le_total 0 a with h0|h0
 ·rw [Int.tdiv_eq_ediv_of_nonneg h0];omega
 ·obtain ⟨c,rfl⟩: ∃c,a= -c:=⟨-a,by omega⟩
  rw [Int.neg_tdiv,Int.tdiv_eq_ediv_of_nonneg (by omega)];omega
end Go.Ulp
namespace Go.Proofs.YtfphmlmgjhebjaaGreatDoor
open Go.RowKit Go.Ulp
set_option maxHeartbeats 2000000
set_option maxRecDepth 100000
theorem less1_any (g:Nat) (D:Dy) (am:Option Addr) (cm:Nat) (pd c:Int) (w:World) (hz:QL 67 w g (decide (D.1<0)) (.slice am (limbs D.1.natAbs).length cm) D.2) (hN:Ns .u32 w am cm (limbs D.1.natAbs)) (hl:(limbs D.1.natAbs).length≤1000) (he: -20000≤D.2∧D.2≤20000) (hc: -10000≤c∧c≤10000) (hp:IsDec (dA D) (dB D) pd):
 Calls Tryz.prog 220 #[.int .i64 c,.pointer (some ⟨g,0,none⟩)] w fun e w'=>e=.returned (.bool (decide (pd<c)))∧Below w.heap.size w w':=by
 have SC:=hid (show ∀w,Ns .u32 w am cm (limbs D.1.natAbs)→Calls Tryz.prog 182 #[.agg #[.bool (decide (D.1<0)),.slice am (limbs D.1.natAbs).length cm,.int .i64 D.2],.int .i64 (-c)] w (RetRat w (decide (D.1<0)) (dA D*tnN (-c)) (dB D*tnN c)) from fun w h=>by
  have h9:=scaled_any _ D (-c) w ⟨am,cm,rfl,h⟩ hl he (by omega)
  rwa [show- -c=c by omega] at h9)
 obtain ⟨A,hA⟩: ∃A,A=dA D*tnN (-c):=⟨_,rfl⟩
 obtain ⟨B,hB⟩: ∃B,B=dB D*tnN c:=⟨_,rfl⟩
 have HL:=hid (show decide (cmpI (A:Int) (B:Int)<0)=decide (pd<c) by
  rw [←less_dec hp c]
  unfold lessT
  rw [decide_eq_decide,cmpI_lt,hA,hB]
  omega)
 rw [←hA,←hB] at SC
 have CM:=hid (show ∀a0 a1 c0 c1 w,Ns .u32 w a0 c0 (limbs A)→Ns .u32 w a1 c1 (limbs B)→Calls Tryz.prog 210 #[.slice a0 (limbs A).length c0,.slice a1 (limbs B).length c1] w fun e w'=>e=.returned (.int .i64 (cmpI A B))∧Below w.heap.size w w' from fun a0 a1 c0 c1 w h0 h1=>(compare_any a0 a1 c0 c1 A B w h0 h1).mono fun e w' ⟨k1,nq,k2⟩=>⟨k1,by rw [k2];exact below_drewN (Below.refl _ _) nq⟩)
 have hwc:IntKind.i64.wrap (-c)= -c:=IntWalk.i64_in _ (by omega)
 have HN:=hid hN
 obtain ⟨⟨j0,j1,-⟩,j2,-⟩:=id hz
 generalize decide (D.1<0)=neg at *
 generalize decide (pd<c)=bb at *
 clear hA hB hN hz hl he hp
 go_enter Tryz.func220,Tryz.ntmps220
 go_upto_region 2 with (go_at_call 182;(with_reducible refine (SC.out _ HN.out).mono ?_);rintro en w1 ⟨g4,rfl,⟨an,cn,bn,dn,k0,k3,k4,hNa,hNb⟩,hb1⟩)
 have NA:=hid hNa
 have NB:=hid hNb
 refine wp_region_grow 11 [9,10,11,12,13,14,15,16,17,18,3] [Fact.is (.pointer (some ⟨g4,0,none⟩)),Fact.is (.pointer (some ⟨g4,0,none⟩)),Fact.is (.pointer (some ⟨g4,3,none⟩)),Fact.is (.slice an (limbs A).length cn),Fact.is (.pointer (some ⟨g4,0,none⟩)),Fact.is (.pointer (some ⟨g4,0,none⟩)),Fact.is (.pointer (some ⟨g4,4,none⟩)),Fact.is (.slice bn (limbs B).length dn),Fact.is (.int .i64 (cmpI A B)),Fact.is (.bool bb),Fact.is (.bool bb)] (by kernel_rfl) (by kernel_rfl) ⟨?o0,?o1,?o2,?o3,?o4,?o5,?o6,?o7,?o8,?o9,?o10,trivial⟩ ?after
 case o0=>(refine oQ rfl ?_;intro ρ w1 R hcon hfn hρ hb hp hR;have e4:ρ (.tmp 4)=.pointer (some ⟨g4,0,none⟩):=hρ.tmp 4 rfl;clear hρ hp;unfold OpRun;go_simp;exact hR _ _ (Below.refl _ _) rfl)
 case o1=>(refine oQ rfl ?_;intro ρ w1 R hcon hfn hρ hb hp hR;have e9:ρ (.tmp 9)=_:=hp 0 9 rfl rfl;clear hρ hp;unfold OpRun;go_simp;exact hR _ _ (Below.refl _ _) rfl)
 case o2=>(refine oQ rfl ?_;intro ρ w1 R hcon hfn hρ hb hp hR;have e10:ρ (.tmp 10)=_:=hp 1 10 rfl rfl;clear hρ hp;unfold OpRun;go_simp;exact hR _ _ (Below.refl _ _) rfl)
 case o3=>(refine oQ rfl ?_;intro ρ w1 R hcon hfn hρ hb hp hR;have e11:ρ (.tmp 11)=_:=hp 2 11 rfl rfl;have j3:=(hb.cell (World.block_lt_of_cell? _ _ k3)).trans k3;clear hρ hp;unfold OpRun;go_simp;exact hR _ _ (Below.refl _ _) rfl)
 case o4=>(refine oQ rfl ?_;intro ρ w1 R hcon hfn hρ hb hp hR;have e4:ρ (.tmp 4)=.pointer (some ⟨g4,0,none⟩):=hρ.tmp 4 rfl;clear hρ hp;unfold OpRun;go_simp;exact hR _ _ (Below.refl _ _) rfl)
 case o5=>(refine oQ rfl ?_;intro ρ w1 R hcon hfn hρ hb hp hR;have e13:ρ (.tmp 13)=_:=hp 4 13 rfl rfl;clear hρ hp;unfold OpRun;go_simp;exact hR _ _ (Below.refl _ _) rfl)
 case o6=>(refine oQ rfl ?_;intro ρ w1 R hcon hfn hρ hb hp hR;have e14:ρ (.tmp 14)=_:=hp 5 14 rfl rfl;clear hρ hp;unfold OpRun;go_simp;exact hR _ _ (Below.refl _ _) rfl)
 case o7=>(refine oQ rfl ?_;intro ρ w1 R hcon hfn hρ hb hp hR;have e15:ρ (.tmp 15)=_:=hp 6 15 rfl rfl;have j4:=(hb.cell (World.block_lt_of_cell? _ _ k4)).trans k4;clear hρ hp;unfold OpRun;go_simp;exact hR _ _ (Below.refl _ _) rfl)
 case o8=>(refine oQ rfl ?_;intro ρ w1 R hcon hfn hρ hb hp hR;have e12:ρ (.tmp 12)=_:=hp 3 12 rfl rfl;have e16:ρ (.tmp 16)=_:=hp 7 16 rfl rfl;clear hρ hp;unfold OpRun;go_simp;(refine (CM.out _ _ _ _ _ (NA.out.below hb) (NB.out.below hb)).mono ?_;rintro e wn ⟨rfl,hbn⟩;exact ⟨_,rfl,hR _ _ hbn rfl⟩))
 case o9=>(refine oQ rfl ?_;intro ρ w1 R hcon hfn hρ hb hp hR;have e17:ρ (.tmp 17)=_:=hp 8 17 rfl rfl;have hx9:=HL.out;clear hρ hp;unfold OpRun;go_simp;exact hR _ _ (Below.refl _ _) rfl)
 case o10=>(refine oQ rfl ?_;intro ρ w1 R hcon hfn hρ hb hp hR;have e18:ρ (.tmp 18)=_:=hp 9 18 rfl rfl;clear hρ hp;unfold OpRun;go_simp;exact hR _ _ (Below.refl _ _) rfl)
 case after=>
  intro u wn hb hf
  have e3:u 3=_:=hf 10 3 (by omega) rfl
  clear hf
  simp only [putAll,Act.put,List.setIfInBounds_toArray,List.set_cons_zero,List.set_cons_succ,List.drop_succ_cons,List.drop_zero,List.drop_nil]
  rw [e3]
  go_wp2_with fail
  go_ret
  exact ⟨rfl,below_trans hb1 hb⟩
theorem log10_any (v:Value) (D:Dy) (pd:Int) (w:World) (hv:VD w D v) (hl:D.1.natAbs<2^60) (he: -2000≤D.2∧D.2≤2000) (hp:IsDec (dA D) (dB D) pd) (hpb: -3000≤pd∧pd≤3000):
 Calls Tryz.prog 161 #[v] w fun e w'=>e=.returned (.int .i64 pd)∧Below w.heap.size w w':=by
 obtain ⟨am,cm,rfl,hN⟩:=hv
 have lM:=limbs_short2 60 2 (by omega) _ hl
 have hbl:bl D.1.natAbs≤60:=(bl_le _ 60).2 hl
 have LN:=hid (fun w h=>natLen_any am cm D.1.natAbs w h (by omega))
 have LE:=hid (fun g c w z h hc=>less1_any g D am cm pd c w z h (by omega) (by omega) hc hp)
 obtain ⟨l,hlb⟩: ∃l,l=bl D.1.natAbs:=⟨_,rfl⟩
 rw [←hlb] at LN hbl
 obtain ⟨x,hx⟩: ∃x,x=D.2:=⟨_,rfl⟩
 rw [←hx] at LE he ⊢
 obtain ⟨p0,hp0⟩: ∃p0,p0=(((l:Int)+x-1)*30103).tdiv 100000:=⟨_,rfl⟩
 have hpb0:=tdiv_bd (((l:Int)+x-1)*30103) (by omega)
 rw [←hp0] at hpb0
 have HP0:=hid hp0.symm
 have HN:=hid hN
 have hmf: ∀fn first cap w,(Instr.makeFunc fn first cap).run Tryz.prog w=.ok (.func fn first cap) w:=fun _ _ _ _=>rfl
 have zQ:QL 67 (w.alloc (.cells #[.bool (decide (D.1<0)),.slice am (limbs D.1.natAbs).length cm,.int .i64 x] 67)) w.heap.size (decide (D.1<0)) (.slice am (limbs D.1.natAbs).length cm) x:=QL.made rfl
 have yb0:=below_alloc w (.cells #[.bool (decide (D.1<0)),.slice am (limbs D.1.natAbs).length cm,.int .i64 x] 67)
 clear hp0 hlb hx hN lM hp hl
 go_enter Tryz.func161,Tryz.ntmps161
 go_upto_region 1 with fail
 refine wp_worldZ (fun WW=>Below w.heap.size w WW∧QL 67 WW w.heap.size (decide (D.1<0)) (.slice am (limbs D.1.natAbs).length cm) x∧Ns .u32 WW am cm (limbs D.1.natAbs)) ⟨yb0,zQ,HN.out.below yb0⟩ ?_
 intro W1 ⟨y1,z1,hN1⟩
 obtain ⟨g1,hg1⟩: ∃g,g=w.heap.size:=⟨_,rfl⟩
 rw [←hg1] at z1 ⊢
 have H1:=hid z1
 have HN1:=hid hN1
 clear hg1 zQ yb0 HN hN1 z1
 refine wp_region_grow 10 [5,6,7,8,9,10,11,12,13,3] [Fact.is (.pointer (some ⟨g1,1,none⟩)),Fact.is (.slice am (limbs D.1.natAbs).length cm),Fact.is (.int .i64 (l:Int)),Fact.is (.pointer (some ⟨g1,2,none⟩)),Fact.is (.int .i64 x),Fact.is (.int .i64 ((l:Int)+x)),Fact.is (.int .i64 ((l:Int)+x-1)),Fact.is (.int .i64 (((l:Int)+x-1)*30103)),Fact.is (.int .i64 p0),Fact.is (.int .i64 p0)] (by kernel_rfl) (by kernel_rfl) ⟨?o0,?o1,?o2,?o3,?o4,?o5,?o6,?o7,?o8,?o9,trivial⟩ ?after
 case o0=>(refine oQ rfl ?_;intro ρ w1 R hcon hfn hρ hb hp hR;have e1:ρ (.tmp 1)=.pointer (some ⟨g1,0,none⟩):=hρ.tmp 1 rfl;clear hρ hp;unfold OpRun;go_simp;exact hR _ _ (Below.refl _ _) rfl)
 case o1=>(refine oQ rfl ?_;intro ρ w1 R hcon hfn hρ hb hp hR;have e5:ρ (.tmp 5)=_:=hp 0 5 rfl rfl;obtain ⟨⟨j0,j1,-⟩,j2,-⟩:=H1.out.below hb;clear hρ hp;unfold OpRun;go_simp;exact hR _ _ (Below.refl _ _) rfl)
 case o2=>(refine oQ rfl ?_;intro ρ w1 R hcon hfn hρ hb hp hR;have e6:ρ (.tmp 6)=_:=hp 1 6 rfl rfl;clear hρ hp;unfold OpRun;go_simp;(refine (LN.out _ (HN1.out.below hb)).mono ?_;rintro e wn ⟨rfl,rfl⟩;exact ⟨_,rfl,hR _ _ (Below.refl _ _) rfl⟩))
 case o3=>(refine oQ rfl ?_;intro ρ w1 R hcon hfn hρ hb hp hR;have e1:ρ (.tmp 1)=.pointer (some ⟨g1,0,none⟩):=hρ.tmp 1 rfl;clear hρ hp;unfold OpRun;go_simp;exact hR _ _ (Below.refl _ _) rfl)
 case o4=>(refine oQ rfl ?_;intro ρ w1 R hcon hfn hρ hb hp hR;have e8:ρ (.tmp 8)=_:=hp 3 8 rfl rfl;obtain ⟨⟨j0,j1,-⟩,j2,-⟩:=H1.out.below hb;clear hρ hp;unfold OpRun;go_simp;exact hR _ _ (Below.refl _ _) rfl)
 case o5=>(refine oQ rfl ?_;intro ρ w1 R hcon hfn hρ hb hp hR;have e7:ρ (.tmp 7)=_:=hp 2 7 rfl rfl;have e9:ρ (.tmp 9)=_:=hp 4 9 rfl rfl;have hw9:IntKind.i64.wrap ((l:Int)+x)=(l:Int)+x:=IntWalk.i64_in _ (by omega);clear hρ hp;unfold OpRun;go_simp;exact hR _ _ (Below.refl _ _) rfl)
 case o6=>(refine oQ rfl ?_;intro ρ w1 R hcon hfn hρ hb hp hR;have e10:ρ (.tmp 10)=_:=hp 5 10 rfl rfl;have hw9:IntKind.i64.wrap ((l:Int)+x-1)=(l:Int)+x-1:=IntWalk.i64_in _ (by omega);clear hρ hp;unfold OpRun;go_simp;exact hR _ _ (Below.refl _ _) rfl)
 case o7=>(refine oQ rfl ?_;intro ρ w1 R hcon hfn hρ hb hp hR;have e11:ρ (.tmp 11)=_:=hp 6 11 rfl rfl;have hw9:IntKind.i64.wrap (((l:Int)+x-1)*30103)=((l:Int)+x-1)*30103:=IntWalk.i64_in _ (by omega);clear hρ hp;unfold OpRun;go_simp;exact hR _ _ (Below.refl _ _) rfl)
 case o8=>(refine oQ rfl ?_;intro ρ w1 R hcon hfn hρ hb hp hR;have e12:ρ (.tmp 12)=_:=hp 7 12 rfl rfl;have hx9:=HP0.out;have hw9:IntKind.i64.wrap p0=p0:=IntWalk.i64_in _ (by omega);clear hρ hp;unfold OpRun;go_simp;exact hR _ _ (Below.refl _ _) rfl)
 case o9=>(refine oQ rfl ?_;intro ρ w1 R hcon hfn hρ hb hp hR;have e13:ρ (.tmp 13)=_:=hp 8 13 rfl rfl;clear hρ hp;unfold OpRun;go_simp;exact hR _ _ (Below.refl _ _) rfl)
 case after=>
  intro u wn hb hf
  have e3:u 3=_:=hf 9 3 (by omega) rfl
  clear hf
  simp only [putAll,Act.put,List.setIfInBounds_toArray,List.set_cons_zero,List.set_cons_succ,List.drop_succ_cons,List.drop_zero,List.drop_nil]
  rw [e3]
  have y2:=below_trans y1 hb
  have H2:=hid (H1.out.below hb)
  have HN2:=hid (HN1.out.below hb)
  obtain ⟨W2,hW2⟩: ∃W,W=wn:=⟨_,rfl⟩
  subst hW2
  clear H1 HN1 y1 hb HP0 LN
  go_wp2_with fail
  go_loopw [3] (fun s3 wr=> ∃c:Int,s3=.int .i64 c∧ -3000≤c∧c≤3000∧Below W2.heap.size W2 wr) (fun s3 _=>(intOf s3-pd).toNat)
  case atStart=>exact ⟨p0,rfl,by omega,by omega,Below.refl _ _⟩
  case round=>
   obtain ⟨c,rfl,c1,c2,hbr⟩:=hrel
   have HLc:=hid (LE.out g1 c wr (H2.out.below hbr) (HN2.out.below hbr) (by omega))
   by_cases hpc:pd<c
   ·have hwc:IntKind.i64.wrap (c-1)=c-1:=IntWalk.i64_in _ (by omega)
    have HLd:=hid (show Calls Tryz.prog 220 #[.int .i64 c,.pointer (some ⟨g1,0,none⟩)] wr fun e w'=>e=.returned (.bool true)∧Below wr.heap.size wr w' from by
     have h9:=HLc.out
     rwa [decide_eq_true hpc] at h9)
    clear HLc
    go_wp2_with (go_at_call 220;(with_reducible refine HLd.out.mono ?_);rintro en w3 ⟨rfl,hb3⟩)
    go_roundw
    case rel=>exact ⟨c-1,rfl,by omega,by omega,below_trans hbr hb3⟩
    case measure=>simp [intOf];omega
   ·have HLd:=hid (show Calls Tryz.prog 220 #[.int .i64 c,.pointer (some ⟨g1,0,none⟩)] wr fun e w'=>e=.returned (.bool false)∧Below wr.heap.size wr w' from by
     have h9:=HLc.out
     rwa [decide_eq_false hpc] at h9)
    clear HLc
    have HLE:=hid (show c≤pd by omega)
    clear hpc
    go_wp2_with (go_at_call 220;(with_reducible refine HLd.out.mono ?_);rintro en w3 ⟨rfl,hb3⟩)
    have y3:=below_trans hbr hb3
    go_loopw [3] (fun s3 wq=> ∃d:Int,s3=.int .i64 d∧ -3000≤d∧d≤pd∧Below W2.heap.size W2 wq) (fun s3 _=>(pd-intOf s3).toNat)
    case atStart=>exact ⟨c,rfl,by omega,HLE.out,y3⟩
    case round=>
     obtain ⟨d,rfl,d1,d2,hbd⟩:=hrel
     have hwd:IntKind.i64.wrap (d+1)=d+1:=IntWalk.i64_in _ (by omega)
     have HLe:=hid (LE.out g1 (d+1) _ (H2.out.below hbd) (HN2.out.below hbd) (by omega))
     by_cases hpe:pd<d+1
     ·have HLf:=hid (show Calls Tryz.prog 220 #[.int .i64 (d+1),.pointer (some ⟨g1,0,none⟩)] _ fun e w'=>e=.returned (.bool true)∧Below _ _ w' from by
       have h9:=HLe.out
       rwa [decide_eq_true hpe] at h9)
      have hde:=hid (show d=pd by omega)
      clear HLe hpe
      go_wp2_with (go_at_call 220;(with_reducible refine HLf.out.mono ?_);rintro en w4 ⟨rfl,hb4⟩)
      go_ret
      exact ⟨by rw [←hde.out];rfl,below_trans (below_trans y2 hbd) hb4⟩
     ·have HLf:=hid (show Calls Tryz.prog 220 #[.int .i64 (d+1),.pointer (some ⟨g1,0,none⟩)] _ fun e w'=>e=.returned (.bool false)∧Below _ _ w' from by
       have h9:=HLe.out
       rwa [decide_eq_false hpe] at h9)
      have HDD:=hid (show d+1≤pd by omega)
      clear HLe hpe
      go_wp2_with (go_at_call 220;(with_reducible refine HLf.out.mono ?_);rintro en w4 ⟨rfl,hb4⟩)
      go_roundw
      case rel=>exact ⟨d+1,rfl,by omega,HDD.out,below_trans hbd hb4⟩
      case measure=>have:=HDD.out;simp [intOf];omega
theorem digitsZ_any (v:Value) (D:Dy) (k:Nat) (mode:Int) (w:World) (hv:VD w D v) (hD:D.1=0) (hk:k≤10000):
 Calls Tryz.prog 162 #[v,.int .i64 (k:Int),.int .i64 mode] w fun e w'=>e=.returned (.tuple #[.string (bsOf (List.replicate k 48)),.int .i64 0,.bool false])∧Below w.heap.size w w':=by
 obtain ⟨am,cm,rfl,hN⟩:=hv
 have hl0:(limbs D.1.natAbs).length=0:=by rw [hD];rfl
 rw [hl0]
 have RP:=hid (fun w=>repeat_any 48 k (by omega) w)
 have RP2:=hid (show ∀w,Calls Tryz.prog 70 #[.string ⟨#[48]⟩,.int .i64 (k:Int)] w fun e w'=>e=.returned (.string (bsOf (List.replicate k 48)))∧Below w.heap.size w w' from RP.out)
 have zQ:QL 67 (w.alloc (.cells #[.bool (decide (D.1<0)),.slice am 0 cm,.int .i64 D.2] 67)) w.heap.size (decide (D.1<0)) (.slice am 0 cm) D.2:=QL.made rfl
 have yb0:=below_alloc w (.cells #[.bool (decide (D.1<0)),.slice am 0 cm,.int .i64 D.2] 67)
 obtain ⟨⟨j0,j1,-⟩,j2,-⟩:=zQ
 clear hD hN RP
 generalize decide (D.1<0)=neg at *
 go_enter Tryz.func162,Tryz.ntmps162
 go_wp2_with (go_at_call 70;(with_reducible refine (RP2.out _).mono ?_);rintro en w1 ⟨rfl,hb1⟩)
 go_ret3
 exact ⟨rfl,below_trans yb0 hb1⟩
theorem digits10_any (v:Value) (D:Dy) (k:Nat) (mode pd:Int) (w:World) (hv:VD w D v) (hD:D.1≠0) (hl:D.1.natAbs<2^60) (he: -2000≤D.2∧D.2≤2000) (hp:IsDec (dA D) (dB D) pd) (hpb: -3000≤pd∧pd≤3000) (hk:k≤2000) (hT10:Tab10 w):
 Calls Tryz.prog 162 #[v,.int .i64 ((k:Int)+1),.int .i64 mode] w fun e w'=>e=.returned (.tuple #[.string (bsOf (sciD (sciQ (decide (D.1<0)) (dA D) (dB D) k pd mode) k)),.int .i64 (sciP (sciQ (decide (D.1<0)) (dA D) (dB D) k pd mode) k pd),.bool (sciC (dA D) (dB D) k pd)])∧Below w.heap.size w w':=by
 obtain ⟨am,cm,rfl,hN⟩:=hv
 obtain ⟨q,hq⟩: ∃q,q=sciQ (decide (D.1<0)) (dA D) (dB D) k pd mode:=⟨_,rfl⟩
 obtain ⟨q1,q2⟩:=sciQ_bd (decide (D.1<0)) (dA D) (dB D) k pd mode (dB_pos D) hp
 rw [←hq] at q1 q2 ⊢
 have lM:=limbs_short2 60 2 (by omega) _ hl
 obtain ⟨A,hA⟩: ∃A,A=dA D*tnN ((k:Int)-pd):=⟨_,rfl⟩
 obtain ⟨B,hB⟩: ∃B,B=dB D*tnN (-((k:Int)-pd)):=⟨_,rfl⟩
 have hB0:0<B:=by rw [hB];exact Nat.mul_pos (dB_pos D) (tnN_pos _)
 have hAb:(limbs A).length≤10000:=by
  obtain ⟨X,hX⟩: ∃X,X=D.2.toNat:=⟨_,rfl⟩
  obtain ⟨Y,hY⟩: ∃Y,Y=((k:Int)-pd).toNat:=⟨_,rfl⟩
  have h10:(10:Nat)^Y≤(2^4)^Y:=Nat.pow_le_pow_left (by decide) Y
  rw [←Nat.pow_mul] at h10
  refine limbs_short2 (60+X+(4*Y+1)) 10000 (by omega) A ?_
  rw [hA];unfold dA tnN
  rw [←hX,←hY,Nat.pow_add,Nat.pow_add]
  refine Nat.mul_lt_mul'' (Nat.mul_lt_mul_of_pos_right hl (Nat.two_pow_pos _)) ?_
  rw [Nat.pow_succ]
  have:=Nat.two_pow_pos (4*Y)
  omega
 have hBb:(limbs B).length≤10000:=by
  obtain ⟨X,hX⟩: ∃X,X=(-D.2).toNat:=⟨_,rfl⟩
  obtain ⟨Y,hY⟩: ∃Y,Y=(-((k:Int)-pd)).toNat:=⟨_,rfl⟩
  have h10:(10:Nat)^Y≤(2^4)^Y:=Nat.pow_le_pow_left (by decide) Y
  rw [←Nat.pow_mul] at h10
  refine limbs_short2 (X+1+(4*Y+1)) 10000 (by omega) B ?_
  rw [hB];unfold dB tnN
  rw [←hX,←hY,Nat.pow_add]
  refine Nat.mul_lt_mul'' (Nat.pow_lt_pow_right (by omega) (by omega)) ?_
  rw [Nat.pow_succ]
  have:=Nat.two_pow_pos (4*Y)
  omega
 have hqs:q=rtN (decide (D.1<0)) A B mode:=by rw [hq,hA,hB];rfl
 have hcs:sciC (dA D) (dB D) k pd=rtC A B:=by rw [hA,hB];rfl
 have hql:(limbs q).length≤30001:=by
  have h1:=(rtN_ge (decide (D.1<0)) A B mode).2
  have h2:=Nat.div_le_self A B
  have h3:q≤A+1:=by omega
  have h4:(limbs 1).length≤1:=(digs_len_le 4294967296 (by omega) 1 1).2 (by omega)
  have h5:=limbs_len_add A 1 10000 10000 hAb (by omega)
  exact Nat.le_trans (limbs_len_mono h3) (by omega)
 rw [hcs]
 have LG:=hid (show ∀w,Ns .u32 w am cm (limbs D.1.natAbs)→Calls Tryz.prog 161 #[.agg #[.bool (decide (D.1<0)),.slice am (limbs D.1.natAbs).length cm,.int .i64 D.2]] w fun e w'=>e=.returned (.int .i64 pd)∧Below w.heap.size w w' from fun w h=>log10_any _ D pd w ⟨am,cm,rfl,h⟩ hl he hp hpb)
 have SC:=hid (show ∀w,Ns .u32 w am cm (limbs D.1.natAbs)→Calls Tryz.prog 182 #[.agg #[.bool (decide (D.1<0)),.slice am (limbs D.1.natAbs).length cm,.int .i64 D.2],.int .i64 ((k:Int)-pd)] w (RetRat w (decide (D.1<0)) A B) from fun w h=>by
  rw [hA,hB]
  exact scaled_any _ D ((k:Int)-pd) w ⟨am,cm,rfl,h⟩ (by omega) (by omega) (by omega))
 have RO:=hid (fun g w h=>by
  have h9:=ratioRound_any g (decide (D.1<0)) A B mode w h (by omega) hB0 (by omega)
  rwa [←hqs] at h9)
 have DE:=hid (fun ao c w h t=>decimal_any ao c q w h (by omega) t)
 have hov:=sciD_over q k q1 q2
 have hdl:(decD q).length≤k+2:=decD_len_lt q (k+2) (Nat.lt_of_le_of_lt q2 (Nat.pow_lt_pow_right (by omega) (by omega))) (by omega)
 obtain ⟨l,hll⟩: ∃l,l=(decD q).length:=⟨_,rfl⟩
 have hsz:(bsOf (decD q)).size=l:=by rw [bs_size,hll]
 have HN:=hid hN
 have HT:=hid hT10
 have zQ:QL 67 (w.alloc (.cells #[.bool (decide (D.1<0)),.slice am (limbs D.1.natAbs).length cm,.int .i64 D.2] 67)) w.heap.size (decide (D.1<0)) (.slice am (limbs D.1.natAbs).length cm) D.2:=QL.made rfl
 have yb0:=below_alloc w (.cells #[.bool (decide (D.1<0)),.slice am (limbs D.1.natAbs).length cm,.int .i64 D.2] 67)
 have hlm:((limbs D.1.natAbs).length:Int)≠0:=by
  intro h
  have:=(limbs_nil D.1.natAbs).1 (List.length_eq_zero_iff.1 (by omega))
  omega
 have hlz:(((limbs D.1.natAbs).length:Int)==0)=false:=beq_eq_false_iff_ne.2 hlm
 have hw1:(k:Int)+1-1=(k:Int):=by omega
 have hw2:IntKind.i64.wrap ((k:Int)-pd)=(k:Int)-pd:=IntWalk.i64_in _ (by omega)
 have hw3:IntKind.i64.wrap (k:Int)=(k:Int):=IntWalk.i64_in _ (by omega)
 have hw4:IntKind.i64.wrap (pd+1)=pd+1:=IntWalk.i64_in _ (by omega)
 have HR1:=hid (show (k+1<l)→sciD q k=(decD q).take (k+1)∧sciP q k pd=pd+1 from fun h=>by
  have h2:10^(k+1)≤q:=by rw [←hov,←hll];exact h
  unfold sciD sciP
  rw [if_pos h2,if_pos h2,(sciD_take q k q1 q2 h2).1]
  exact ⟨rfl,rfl⟩)
 have HR2:=hid (show ¬(k+1<l)→sciD q k=decD q∧sciP q k pd=pd from fun h=>by
  have h2: ¬10^(k+1)≤q:=by rw [←hov,←hll];exact h
  unfold sciD sciP
  rw [if_neg h2,if_neg h2]
  exact ⟨rfl,rfl⟩)
 have hS:=fun h=>slice_to (P:=Tryz.prog) Tryz.underlying9 (decD q) ((k:Int)+1) (by omega) h
 rw [show ((k:Int)+1).toNat=k+1 by omega,←hll] at hS
 have hl2:l≤k+2:=by omega
 generalize sciD q k=RD at *
 generalize sciP q k pd=RP at *
 generalize decD q=T at *
 generalize rtC A B=CC at *
 clear hq hqs hcs hA hB hAb hBb hB0 hql q1 q2 hov hdl hN hT10 hp hD hl hll lM hlm
 go_enter Tryz.func162,Tryz.ntmps162
 go_upto_region 1 with fail
 refine wp_worldZ (fun WW=>Below w.heap.size w WW∧QL 67 WW w.heap.size (decide (D.1<0)) (.slice am (limbs D.1.natAbs).length cm) D.2∧Ns .u32 WW am cm (limbs D.1.natAbs)) ⟨yb0,zQ,HN.out.below yb0⟩ ?_
 intro W1 ⟨y1,z1,hN1⟩
 obtain ⟨g1,hg1⟩: ∃g,g=w.heap.size:=⟨_,rfl⟩
 rw [←hg1] at z1 ⊢
 have H1:=hid z1
 have HN1:=hid hN1
 obtain ⟨⟨j0,j1,-⟩,j2,-⟩:=id z1
 clear hg1 zQ yb0 HN hN1 z1
 generalize decide (D.1<0)=neg at *
 go_upto_if 37 with (first
  |(go_at_call 161;(with_reducible refine (LG.out _ HN1.out).mono ?_);rintro en w2 ⟨rfl,hb2⟩;obtain ⟨⟨i0,i1,-⟩,i2,-⟩:=H1.out.below hb2)
  |(go_at_call 182;(with_reducible refine (SC.out _ (HN1.out.below hb2)).mono ?_);rintro en w5 ⟨g5,rfl,hr5,hb5⟩)
  |(go_at_call 183;(with_reducible refine (RO.out _ _ hr5).mono ?_);rintro en w6 ⟨aq,cq,rfl,hNq,hb6⟩;have y6:=below_trans (below_trans (below_trans y1 hb2) hb5) hb6)
  |(go_at_call 166;(with_reducible refine (DE.out _ _ _ hNq (HT.out.below y6)).mono ?_);rintro en w8 ⟨rfl,hb8⟩))
 by_cases hkl:k+1<l
 ·obtain ⟨r1,r2⟩:=HR1.out hkl
  have hS2:=hS (by omega)
  have hkl2:(k:Int)+1<(l:Int):=by omega
  have R1:=hid r1
  have R2:=hid r2
  clear HR1 HR2 hS r1 r2
  go_wp2_with fail
  go_ret3
  exact ⟨by rw [R1.out,R2.out];rfl,below_trans y6 hb8⟩
 ·obtain ⟨r1,r2⟩:=HR2.out hkl
  have hkl2: ¬(k:Int)+1<(l:Int):=by omega
  have R1:=hid r1
  have R2:=hid r2
  clear HR1 HR2 hS r1 r2
  go_wp2_with fail
  go_ret3
  exact ⟨by rw [R1.out,R2.out];rfl,below_trans y6 hb8⟩
theorem power_any (p:Int) (hp: -1000000≤p∧p≤1000000) (w:World) (hT10:Tab10 w):
 Calls Tryz.prog 91 #[.int .i64 p] w fun e w'=>e=.returned (.string (bsOf (pwrT p)))∧Below w.heap.size w w':=by
 obtain ⟨n,hn⟩: ∃n,n=p.natAbs:=⟨_,rfl⟩
 have HP:=hid (show pwrT p=(if p<0 then 45 else 43)::((if n<10 then [48] else [])++decD n) by unfold pwrT;rw [←hn])
 have IT:=hid (show ∀w,Tab10 w→Calls Tryz.prog 168 #[.int .i64 (n:Int)] w fun e w'=>e=.returned (.string (bsOf (decD n)))∧Below w.heap.size w w' from fun w t=>by
  have h9:=itoa_any (n:Int) (by omega) (by omega) w t
  rwa [itoa_nat] at h9)
 have lD:(decD n).length≤8:=decD_len 7 n (by omega)
 have HT:=hid hT10
 generalize decD n=T at *
 have a1:=add_bs (P:=Tryz.prog) [43] [48] (by simp)
 have a2:=add_bs (P:=Tryz.prog) [45] [48] (by simp)
 have a3:=add_bs (P:=Tryz.prog) [43] T (by simp;omega)
 have a4:=add_bs (P:=Tryz.prog) [45] T (by simp;omega)
 have a5:=add_bs (P:=Tryz.prog) [43,48] T (by simp;omega)
 have a6:=add_bs (P:=Tryz.prog) [45,48] T (by simp;omega)
 have b1:(ByteArray.mk #[43])=bsOf [43]:=rfl
 have b2:(ByteArray.mk #[45])=bsOf [45]:=rfl
 have b3:(ByteArray.mk #[48])=bsOf [48]:=rfl
 simp only [List.cons_append,List.nil_append] at a1 a2 a3 a4 a5 a6
 clear hT10
 by_cases h0:p<0
 ·have hpn: -p=(n:Int):=by omega
  have hwn:IntKind.i64.wrap (n:Int)=(n:Int):=IntWalk.i64_in _ (by omega)
  by_cases h1:n<10
  ·have HR:=hid (show pwrT p=45::48::T by rw [HP.out,if_pos h0,if_pos h1];rfl)
   have h2:(n:Int)<10:=by omega
   clear HP hn
   go_enter Tryz.func91,Tryz.ntmps91
   go_wp2_with (go_at_call 168;(with_reducible refine (IT.out _ HT.out).mono ?_);rintro en w1 ⟨rfl,hb1⟩)
   go_ret
   exact ⟨by rw [HR.out];rfl,hb1⟩
  ·have HR:=hid (show pwrT p=45::T by rw [HP.out,if_pos h0,if_neg h1];rfl)
   have h2: ¬(n:Int)<10:=by omega
   clear HP hn
   go_enter Tryz.func91,Tryz.ntmps91
   go_wp2_with (go_at_call 168;(with_reducible refine (IT.out _ HT.out).mono ?_);rintro en w1 ⟨rfl,hb1⟩)
   go_ret
   exact ⟨by rw [HR.out];rfl,hb1⟩
 ·obtain ⟨m,rfl⟩:=Int.eq_ofNat_of_zero_le (show 0≤p by omega)
  rw [Int.natAbs_natCast] at hn
  subst hn
  by_cases h1:n<10
  ·have HR:=hid (show pwrT (n:Int)=43::48::T by rw [HP.out,if_neg h0,if_pos h1];rfl)
   have h2:(n:Int)<10:=by omega
   clear HP
   go_enter Tryz.func91,Tryz.ntmps91
   go_wp2_with (go_at_call 168;(with_reducible refine (IT.out _ HT.out).mono ?_);rintro en w1 ⟨rfl,hb1⟩)
   go_ret
   exact ⟨by rw [HR.out];rfl,hb1⟩
  ·have HR:=hid (show pwrT (n:Int)=43::T by rw [HP.out,if_neg h0,if_neg h1];rfl)
   have h2: ¬(n:Int)<10:=by omega
   clear HP
   go_enter Tryz.func91,Tryz.ntmps91
   go_wp2_with (go_at_call 168;(with_reducible refine (IT.out _ HT.out).mono ?_);rintro en w1 ⟨rfl,hb1⟩)
   go_ret
   exact ⟨by rw [HR.out];rfl,hb1⟩
theorem shCmp_any (n m:Nat) (k x:Int) (an am:Option Addr) (cn cm:Nat) (w:World) (h0:Ns .u32 w an cn (limbs n)) (h1:Ns .u32 w am cm (limbs m)) (ln:(limbs n).length≤10000) (lm:(limbs m).length≤10000) (hk: -10000≤k∧k≤10000) (hx: -20000≤x∧x≤20000):
 Calls Tryz.prog 165 #[.slice an (limbs n).length cn,.int .i64 k,.slice am (limbs m).length cm,.int .i64 x] w fun e w'=>e=.returned (.int .i64 (cmpT n k m x))∧Below w.heap.size w w':=by
 obtain ⟨K,hK⟩: ∃K:Nat,K=k.toNat:=⟨_,rfl⟩
 obtain ⟨J,hJ⟩: ∃K:Nat,K=(-k).toNat:=⟨_,rfl⟩
 obtain ⟨X,hX⟩: ∃K:Nat,K=x.toNat:=⟨_,rfl⟩
 obtain ⟨Y,hY⟩: ∃K:Nat,K=(-x).toNat:=⟨_,rfl⟩
 have m1:max k 0=(K:Int):=by omega
 have m2:max (-k) 0=(J:Int):=by omega
 have m3:max x 0=(X:Int):=by omega
 have m4:max (-x) 0=(Y:Int):=by omega
 have w1:IntKind.i64.wrap (-k)= -k:=IntWalk.i64_in _ (by omega)
 have w2:IntKind.i64.wrap (-x)= -x:=IntWalk.i64_in _ (by omega)
 have E:=hid (show cmpT n k m x=cmpI ((n*10^K*2^Y:Nat):Int) ((m*2^X*10^J:Nat):Int) by unfold cmpT;rw [hK,hJ,hX,hY])
 have lK:=limbs_ten K (by omega)
 have lJ:=limbs_ten J (by omega)
 have lA:=limbs_len_mul n (10^K) 10000 3002 ln lK
 have P1:=hid (fun w=>pow10_any K (by omega) w)
 have P2:=hid (fun w=>pow10_any J (by omega) w)
 have T1:=hid (fun b d w h0 h1=>times_any an b cn d n (10^K) w h0 h1 (by omega) (by omega))
 have L1:=hid (fun b d w h0=>leftN_any b d (n*10^K) Y w h0 (by omega) (by omega))
 have L2:=hid (fun w h0=>leftN_any am cm m X w h0 (by omega) (by omega))
 have lB:(limbs (m*2^X)).length≤40000:=limbs_len_mul m (2^X) 10000 30000 lm (limbs_short2 (X+1) 30000 (by omega) _ (Nat.pow_lt_pow_right (by omega) (by omega)))
 have T2:=hid (fun a b c d w h0 h1=>times_any a b c d (m*2^X) (10^J) w h0 h1 (by omega) (by omega))
 have CM:=hid (fun a b c d w h0 h1=>compare_any a b c d (n*10^K*2^Y) (m*2^X*10^J) w h0 h1)
 have H0:=hid h0
 have H1:=hid h1
 rw [E.out]
 generalize cmpI ((n*10^K*2^Y:Nat):Int) ((m*2^X*10^J:Nat):Int)=C at *
 clear h0 h1 lK lJ lA lB hK hJ hX hY E
 go_enter Tryz.func165,Tryz.ntmps165
 go_upto_region 2 with (first
  |(go_at_call 159;(with_reducible refine (P1.out _).mono ?_);rintro en w1 ⟨b1,d1,rfl,n1,y1⟩)
  |(go_at_call 157;(with_reducible refine (T1.out _ _ _ (H0.out.below y1) n1).mono ?_);rintro en w2 ⟨b2,rfl,n2,y2⟩)
  |(go_at_call 172;(with_reducible refine (L1.out _ _ _ n2).mono ?_);rintro en w3 ⟨b3,rfl,n3,y3⟩))
 have yb3:=below_trans (below_trans y1 y2) y3
 go_upto_region 3 with (first
  |(go_at_call 172;(with_reducible refine (L2.out _ (H1.out.below yb3)).mono ?_);rintro en w4 ⟨b4,rfl,n4,y4⟩)
  |(go_at_call 159;(with_reducible refine (P2.out _).mono ?_);rintro en w5 ⟨b5,d5,rfl,n5,y5⟩)
  |(go_at_call 157;(with_reducible refine (T2.out _ _ _ _ _ (n4.below y5) n5).mono ?_);rintro en w6 ⟨b6,rfl,n6,y6⟩))
 have n7:=((n3.below y4).below y5).below y6
 have yb6:=below_trans (below_trans (below_trans yb3 y4) y5) y6
 go_wp2_with (go_at_call 210;(with_reducible refine (CM.out _ _ _ _ _ n7 n6).mono ?_);rintro en w7 ⟨rfl,nq,rfl⟩)
 go_ret
 exact ⟨rfl,below_drewN yb6 _⟩
end Go.Proofs.YtfphmlmgjhebjaaGreatDoor
namespace Go.Ulp
open Go.RowKit
def B5 (t:TypeId) (w:World) (g:Nat) (v0 v1 v2 v3 v4:Value):Prop:=
 w.cell? ⟨g,0,none⟩=some v0∧w.cell? ⟨g,1,none⟩=some v1∧w.cell? ⟨g,2,none⟩=some v2∧w.cell? ⟨g,3,none⟩=some v3∧w.cell? ⟨g,4,none⟩=some v4∧
  w.frozen? ⟨g,0,none⟩=false∧w.frozen? ⟨g,1,none⟩=false∧w.frozen? ⟨g,2,none⟩=false∧w.frozen? ⟨g,3,none⟩=false∧w.frozen? ⟨g,4,none⟩=false∧ElemIs w g t
theorem B5.lt {t:TypeId} {w:World} {g:Nat} {v0 v1 v2 v3 v4:Value} (h:B5 t w g v0 v1 v2 v3 v4):g<w.heap.size:=h.2.2.2.2.2.2.2.2.2.2.lt
theorem B5.below {t:TypeId} {w w':World} {g:Nat} {v0 v1 v2 v3 v4:Value} (h:B5 t w g v0 v1 v2 v3 v4) (hb:Below w.heap.size w w'):B5 t w' g v0 v1 v2 v3 v4:=by
 have hB:=h.lt
 obtain ⟨h0,h1,h2,h3,h4,f0,f1,f2,f3,f4,he⟩:=h
 exact ⟨(hb.cell (p:=⟨g,0,none⟩) hB).trans h0,(hb.cell (p:=⟨g,1,none⟩) hB).trans h1,(hb.cell (p:=⟨g,2,none⟩) hB).trans h2,(hb.cell (p:=⟨g,3,none⟩) hB).trans h3,(hb.cell (p:=⟨g,4,none⟩) hB).trans h4,
  (hb.frozen (p:=⟨g,0,none⟩) hB).trans f0,(hb.frozen (p:=⟨g,1,none⟩) hB).trans f1,(hb.frozen (p:=⟨g,2,none⟩) hB).trans f2,(hb.frozen (p:=⟨g,3,none⟩) hB).trans f3,(hb.frozen (p:=⟨g,4,none⟩) hB).trans f4,he.belowB hb hB⟩
theorem B5.made {t:TypeId} {w:World} {g:Nat} {v0 v1 v2 v3 v4:Value} (hg:g=w.heap.size):B5 t (w.alloc (.cells #[v0,v1,v2,v3,v4] t)) g v0 v1 v2 v3 v4:=by
 subst hg
 refine ⟨?_,?_,?_,?_,?_,?_,?_,?_,?_,?_,ElemIs.made _ _ _⟩
 all_goals first
  |(rw [World.cell?_alloc_at (hn:=rfl)];rfl)
  |(unfold World.frozen?;rw [heap_alloc_new];simp)
theorem B5.set1 {t:TypeId} {w:World} {g:Nat} {v0 v1 v2 v3 v4:Value} (h:B5 t w g v0 v1 v2 v3 v4) (u:Value):B5 t (w.setCell ⟨g,1,none⟩ u) g v0 u v2 v3 v4:=by
 obtain ⟨h0,h1,h2,h3,h4,f0,f1,f2,f3,f4,he⟩:=h
 exact ⟨(cell_set_ne (by omega)).trans h0,World.cell?_setCell_same _ _ _ h1,(cell_set_ne (by omega)).trans h2,(cell_set_ne (by omega)).trans h3,(cell_set_ne (by omega)).trans h4,
  (frozen_setCell _ _ _ _).trans f0,(frozen_setCell _ _ _ _).trans f1,(frozen_setCell _ _ _ _).trans f2,(frozen_setCell _ _ _ _).trans f3,(frozen_setCell _ _ _ _).trans f4,he.setCell _ _⟩
theorem B5.far {t:TypeId} {w:World} {g:Nat} {v0 v1 v2 v3 v4:Value} (h:B5 t w g v0 v1 v2 v3 v4) (a:Addr) (u:Value) (hne:g≠a.block):B5 t (w.setCell a u) g v0 v1 v2 v3 v4:=by
 obtain ⟨h0,h1,h2,h3,h4,f0,f1,f2,f3,f4,he⟩:=h
 have c: ∀o v,w.cell? ⟨g,o,none⟩=some v→(w.setCell a u).cell? ⟨g,o,none⟩=some v:=fun o v hv=>by
  rw [World.cell?_setCell_other (h:=fun e=>hne (by rw [e]))];exact hv
 exact ⟨c _ _ h0,c _ _ h1,c _ _ h2,c _ _ h3,c _ _ h4,(frozen_setCell _ _ _ _).trans f0,(frozen_setCell _ _ _ _).trans f1,(frozen_setCell _ _ _ _).trans f2,(frozen_setCell _ _ _ _).trans f3,(frozen_setCell _ _ _ _).trans f4,he.setCell _ _⟩
theorem Ns.put5 {t:TypeId} {w:World} {g:Nat} {v0 v1 v2 v3 v4:Value} {ao:Option Addr} {cap:Nat} {L:List Nat} (h:Ns .u32 w ao cap L) (z:B5 t w g v0 v1 v2 v3 v4)
 (k0: ∀x,v0≠ .int .u32 x) (k1: ∀x,v1≠ .int .u32 x) (k2: ∀x,v2≠ .int .u32 x) (k3: ∀x,v3≠ .int .u32 x) (k4: ∀x,v4≠ .int .u32 x) (u0 u1 u2 u3 u4:Value):
 Ns .u32 (((((w.setCell ⟨g,0,none⟩ u0).setCell ⟨g,1,none⟩ u1).setCell ⟨g,2,none⟩ u2).setCell ⟨g,3,none⟩ u3).setCell ⟨g,4,none⟩ u4) ao cap L:=by
 obtain ⟨h0,h1,h2,h3,h4,-⟩:=z
 have a0:=Ns.setCell_kind h ⟨g,0,none⟩ u0 v0 h0 k0
 have a1:=Ns.setCell_kind a0 ⟨g,1,none⟩ u1 v1 ((cell_set_ne (by omega)).trans h1) k1
 have a2:=Ns.setCell_kind a1 ⟨g,2,none⟩ u2 v2 ((cell_set_ne (by omega)).trans ((cell_set_ne (by omega)).trans h2)) k2
 have a3:=Ns.setCell_kind a2 ⟨g,3,none⟩ u3 v3 ((cell_set_ne (by omega)).trans ((cell_set_ne (by omega)).trans ((cell_set_ne (by omega)).trans h3))) k3
 exact Ns.setCell_kind a3 ⟨g,4,none⟩ u4 v4 ((cell_set_ne (by omega)).trans ((cell_set_ne (by omega)).trans ((cell_set_ne (by omega)).trans ((cell_set_ne (by omega)).trans h4)))) k4
theorem Ns.put1 {t:TypeId} {w:World} {g:Nat} {v0 v1 v2 v3 v4:Value} {ao:Option Addr} {cap:Nat} {L:List Nat} (h:Ns .u32 w ao cap L) (z:B5 t w g v0 v1 v2 v3 v4) (k1: ∀x,v1≠ .int .u32 x) (u1:Value):Ns .u32 (w.setCell ⟨g,1,none⟩ u1) ao cap L:=
 Ns.setCell_kind h ⟨g,1,none⟩ u1 v1 z.2.1 k1
theorem below_put5 {B:Nat} {w w':World} (h:Below B w w') {g:Nat} (hg:B≤g) (u0 u1 u2 u3 u4:Value):Below B w (((((w'.setCell ⟨g,0,none⟩ u0).setCell ⟨g,1,none⟩ u1).setCell ⟨g,2,none⟩ u2).setCell ⟨g,3,none⟩ u3).setCell ⟨g,4,none⟩ u4):=
 ((((h.setCell (p:=⟨g,0,none⟩) hg _).setCell (p:=⟨g,1,none⟩) hg _).setCell (p:=⟨g,2,none⟩) hg _).setCell (p:=⟨g,3,none⟩) hg _).setCell (p:=⟨g,4,none⟩) hg _
def VB (w:World) (m lo hi:Nat) (x:Int) (ev:Bool) (v:Value):Prop:=
 ∃a b c d e f,v=.agg #[.slice a (limbs m).length d,.slice b (limbs lo).length e,.slice c (limbs hi).length f,.int .i64 x,.bool ev]∧Ns .u32 w a d (limbs m)∧Ns .u32 w b e (limbs lo)∧Ns .u32 w c f (limbs hi)
theorem VB.below {w w':World} {m lo hi:Nat} {x:Int} {ev:Bool} {v:Value} (h:VB w m lo hi x ev v) (hb:Below w.heap.size w w'):VB w' m lo hi x ev v:=by
 obtain ⟨a,b,c,d,e,f,h1,h2,h3,h4⟩:=h;exact ⟨a,b,c,d,e,f,h1,h2.below hb,h3.below hb,h4.below hb⟩
def RetVB (w:World) (m lo hi:Nat) (x:Int) (ev:Bool) (e:Ending) (w':World):Prop:= ∃v,e=.returned v∧VB w' m lo hi x ev v∧Below w.heap.size w w'
theorem ns_no {a:Option Addr} {n c:Nat}: ∀x,Value.slice a n c≠ .int .u32 x:=by intro x h;cases h
end Go.Ulp
namespace Go.Proofs.YtfphmlmgjhebjaaGreatDoor
open Go.RowKit Go.Ulp
set_option maxHeartbeats 2000000
set_option maxRecDepth 100000
theorem limits_any (x:Int) (h0:0≤x) (h1:x<18446744073709551616) (E f:Nat) (hE:expOf x=(E:Int)) (hf:fracOf x=(f:Int)) (hm:1≤lmM E f) (w:World):
 Calls Tryz.prog 160 #[.int .u64 x] w (RetVB w (4*lmM E f) (lmL E f) (4*lmM E f+2) (lmX E) (decide (f%2=0))):=by
 have PA:=hid (fun w=>parts_any x h0 h1 w)
 have heb:=expOf_bd x
 have hfb:=fracOf_bd x
 rw [hE] at PA heb
 rw [hf] at PA hfb
 obtain ⟨M,hM⟩: ∃M,M=lmM E f:=⟨_,rfl⟩
 have hMd:M=if E=0 then f else f+4503599627370496:=hM
 have hMb:M<9007199254740992:=by rw [hMd];split<;>omega
 have hMv:E=0→f=M:=fun h=>by rw [hMd,if_pos h]
 have hMw:E≠0→(f:Int)+4503599627370496=(M:Int):=fun h=>by rw [hMd,if_neg h];omega
 have hor:=or_hidden (f:Int) (by omega) (by omega)
 obtain ⟨lo,hlo⟩: ∃lo,lo=lmL E f:=⟨_,rfl⟩
 have hlo2:lo=if f=0∧1<E then 4*M-1 else 4*M-2:=by rw [hlo,hM];rfl
 rw [←hM] at hm ⊢
 rw [←hlo]
 have hxx:lmX E=max (E:Int) 1-1075-2:=by unfold lmX lmH;omega
 obtain ⟨X,hX⟩: ∃X,X=lmX E:=⟨_,rfl⟩
 rw [←hX] at hxx ⊢
 have HX:=hid (show max (E:Int) 1-1075-2=X from hxx.symm)
 obtain ⟨Y,hY⟩: ∃Y,Y=max (E:Int) 1-1075:=⟨_,rfl⟩
 have HY:=hid hY
 have HYX:=hid (show Y-2=X by omega)
 have wY:IntKind.i64.wrap (max (E:Int) 1-1075)=Y:=by rw [IntWalk.i64_in _ (by omega)];omega
 have wX:IntKind.i64.wrap (Y-2)=X:=by rw [IntWalk.i64_in _ (by omega)];omega
 obtain ⟨ev,hev⟩: ∃b,b=decide (f%2=0):=⟨_,rfl⟩
 have HEV:=hid (show ((f:Int)%2==0)=ev by rw [hev,Bool.eq_iff_iff,beq_iff_eq,decide_eq_true_eq];omega)
 rw [←hev]
 have OA:=hid (show ∀w,Calls Tryz.prog 95 #[.int .u64 (4*(M:Int))] w (RetN w (4*M)) from fun w=>by
  have:=natOf_any (4*M) (by omega) w;rw [Int.natCast_mul] at this;exact this)
 have OB:=hid (show ∀w,Calls Tryz.prog 95 #[.int .u64 (4*(M:Int)-2)] w (RetN w (4*M-2)) from fun w=>by
  have:=natOf_any (4*M-2) (by omega) w;rw [show ((4*M-2:Nat):Int)=4*(M:Int)-2 by omega] at this;exact this)
 have OC:=hid (show ∀w,Calls Tryz.prog 95 #[.int .u64 (4*(M:Int)+2)] w (RetN w (4*M+2)) from fun w=>by
  have:=natOf_any (4*M+2) (by omega) w;rw [show ((4*M+2:Nat):Int)=4*(M:Int)+2 by omega] at this;exact this)
 have OD:=hid (show ∀w,Calls Tryz.prog 95 #[.int .u64 (4*(M:Int)-1)] w (RetN w (4*M-1)) from fun w=>by
  have:=natOf_any (4*M-1) (by omega) w;rw [show ((4*M-1:Nat):Int)=4*(M:Int)-1 by omega] at this;exact this)
 have zR:=B5.made (t:=191) (w:=w) (v0:=.slice none 0 0) (v1:=.slice none 0 0) (v2:=.slice none 0 0) (v3:=.int .i64 0) (v4:=.bool false) rfl
 have yb0:=below_alloc w (.cells #[.slice none 0 0,.slice none 0 0,.slice none 0 0,.int .i64 0,.bool false] 191)
 clear hM hMd hlo hX hY hxx hev hE hf
 go_enter Tryz.func160,Tryz.ntmps160
 go_upto_region 3 with (go_at_call 87;(with_reducible refine (PA.out _).mono ?_);rintro en w1 ⟨rfl,rfl⟩)
 refine wp_worldZ (fun WW=>Below w.heap.size w WW∧B5 191 WW w.heap.size (.slice none 0 0) (.slice none 0 0) (.slice none 0 0) (.int .i64 0) (.bool false)) ⟨yb0,zR⟩ ?_
 intro W0 ⟨y0,zR0⟩
 obtain ⟨g2,hg2⟩: ∃g,g=w.heap.size:=⟨_,rfl⟩
 have hgl:w.heap.size≤g2:=by omega
 rw [←hg2] at zR0
 rw [←hg2]
 clear hg2 yb0 zR
 go_upto_if 20 with fail
 go_cut [6] (fun s6 wx=>s6=.int .u64 (M:Int)∧wx=W0)
 case first=>as_aux_lemma=>
  by_cases hE0:E=0
  ·subst hE0
   have hfM:=hMv rfl
   have HM:=hid (show (f:Int)=(M:Int) by omega)
   clear hMv hMw hfM
   go_wp2_with fail
   go_meet
   exact ⟨by rw [HM.out],rfl⟩
  ·have hg:0<(E:Int):=by omega
   have hM9:=hMw hE0
   clear hMv hMw
   go_wp2_with fail
   go_meet
   exact ⟨rfl,rfl⟩
 case rest=>
  obtain ⟨rfl,rfl⟩:=hcut
  clear hMv hMw hor PA
  have u1:IntKind.u64.wrap (4*(M:Int))=4*(M:Int):=by rw [IntKind.wrap_u64];omega
  have u2:IntKind.u64.wrap (4*(M:Int)-2)=4*(M:Int)-2:=by rw [IntKind.wrap_u64];omega
  have u3:IntKind.u64.wrap (4*(M:Int)+2)=4*(M:Int)+2:=by rw [IntKind.wrap_u64];omega
  have u4:IntKind.u64.wrap (4*(M:Int)-1)=4*(M:Int)-1:=by rw [IntKind.wrap_u64];omega
  have HEV2:((f:Int)%2==0)=ev:=HEV.out
  go_upto_region 6 with (first
   |(go_at_call 95;(with_reducible refine (OA.out _).mono ?_);rintro en w1 ⟨a1,rfl,n1,y1⟩)
   |(go_at_call 95;(with_reducible refine (OB.out _).mono ?_);rintro en w2 ⟨a2,rfl,n2,y2⟩)
   |(go_at_call 95;(with_reducible refine (OC.out _).mono ?_);rintro en w3 ⟨a3,rfl,n3,y3⟩))
  have yb3:=below_trans (below_trans (below_trans y0 y1) y2) y3
  have zR3:=((zR0.below y1).below y2).below y3
  have m1:=(n1.below y2).below y3
  have m2:=n2.below y3
  refine wp_worldZ (fun WW=>Below w.heap.size w WW∧B5 191 WW g2 (.slice none 0 0) (.slice none 0 0) (.slice none 0 0) (.int .i64 0) (.bool false)∧B5 191 WW w3.heap.size (.slice a1 (limbs (4*M)).length (limbs (4*M)).length) (.slice a2 (limbs (4*M-2)).length (limbs (4*M-2)).length) (.slice a3 (limbs (4*M+2)).length (limbs (4*M+2)).length) (.int .i64 X) (.bool ev)∧
   Ns .u32 WW a1 (limbs (4*M)).length (limbs (4*M))∧Ns .u32 WW a2 (limbs (4*M-2)).length (limbs (4*M-2))∧Ns .u32 WW a3 (limbs (4*M+2)).length (limbs (4*M+2))) ⟨below_trans yb3 (below_alloc _ _),zR3.below (below_alloc _ _),B5.made rfl,m1.below (below_alloc _ _),m2.below (below_alloc _ _),n3.below (below_alloc _ _)⟩ ?_
  intro W4 ⟨yb4,zR4,zB4,p1,p2,p3⟩
  obtain ⟨g8,hg8⟩: ∃g,g=w3.heap.size:=⟨_,rfl⟩
  have hg28:g2≠g8:=by have:=zR3.lt;omega
  have hg8l:w.heap.size≤g8:=by have:=yb3.size;omega
  rw [←hg8] at zB4
  rw [←hg8]
  clear hg8 n1 n2 n3 m1 m2 zR3 yb3 y1 y2 y3 y0 zR0 OA OB OC
  by_cases hsp:f=0∧1<E
  ·have hl:4*M-1=lo:=by rw [hlo2,if_pos hsp]
   rw [hl] at OD
   obtain ⟨hf0,hE1⟩:=hsp
   subst hf0
   have hE2:(1:Int)<(E:Int):=by omega
   clear hlo2 hl
   obtain ⟨i0,i1,i2,i3,i4,if0,if1,if2,if3,if4,ie⟩:=id zB4
   go_wp2_with (go_at_call 95;(with_reducible refine (OD.out _).mono ?_);rintro en w5 ⟨a5,rfl,n5,y5⟩;obtain ⟨k0,k1,k2,k3,k4,kf0,kf1,kf2,kf3,kf4,ke⟩:=zB4.below y5;obtain ⟨m0,m1,m2,m3,m4,mf0,mf1,mf2,mf3,mf4,me⟩:=zR4.below y5)
   have zB5:=zB4.below y5
   have zR5:=(zR4.below y5).far ⟨g8,1,none⟩ (.slice a5 (limbs lo).length (limbs lo).length) hg28
   obtain ⟨q0,q1,q2,q3,q4,-⟩:=id zR5
   clear m0 m1 m2 m3 m4 k0 k1 k2 k3 k4
   refine bodyPost_ret (by simp [results,Tryz.results160,go_sem,q0,q1,q2,q3,q4];try rfl) rfl ?_
   exact ⟨_,rfl,⟨_,_,_,_,_,_,rfl,((p1.below y5).put1 zB5 ns_no _).put5 zR5 ns_no ns_no ns_no (by intro x h;cases h) (by intro x h;cases h) _ _ _ _ _,(n5.put1 zB5 ns_no _).put5 zR5 ns_no ns_no ns_no (by intro x h;cases h) (by intro x h;cases h) _ _ _ _ _,((p3.below y5).put1 zB5 ns_no _).put5 zR5 ns_no ns_no ns_no (by intro x h;cases h) (by intro x h;cases h) _ _ _ _ _⟩,
    below_put5 ((below_trans yb4 y5).setCell (p:=⟨g8,1,none⟩) hg8l _) hgl _ _ _ _ _⟩
  ·have hl:4*M-2=lo:=by rw [hlo2,if_neg hsp]
   rw [hl] at zB4 p2
   rw [hl]
   clear hlo2 hl OD
   obtain ⟨i0,i1,i2,i3,i4,if0,if1,if2,if3,if4,ie⟩:=id zB4
   obtain ⟨m0,m1,m2,m3,m4,mf0,mf1,mf2,mf3,mf4,me⟩:=id zR4
   by_cases hf0:f=0
   ·subst hf0
    have hE2: ¬(1:Int)<(E:Int):=by
     intro h;exact hsp ⟨rfl,by omega⟩
    clear hsp
    go_wp2_with fail
    refine bodyPost_ret (by simp [results,Tryz.results160,go_sem,m0,m1,m2,m3,m4];try rfl) rfl ?_
    exact ⟨_,rfl,⟨_,_,_,_,_,_,rfl,p1.put5 zR4 ns_no ns_no ns_no (by intro x h;cases h) (by intro x h;cases h) _ _ _ _ _,p2.put5 zR4 ns_no ns_no ns_no (by intro x h;cases h) (by intro x h;cases h) _ _ _ _ _,p3.put5 zR4 ns_no ns_no ns_no (by intro x h;cases h) (by intro x h;cases h) _ _ _ _ _⟩,below_put5 yb4 hgl _ _ _ _ _⟩
   ·have hf1:((f:Int)==0)=false:=beq_eq_false_iff_ne.2 (by omega)
    clear hsp hf0
    go_wp2_with fail
    refine bodyPost_ret (by simp [results,Tryz.results160,go_sem,m0,m1,m2,m3,m4];try rfl) rfl ?_
    exact ⟨_,rfl,⟨_,_,_,_,_,_,rfl,p1.put5 zR4 ns_no ns_no ns_no (by intro x h;cases h) (by intro x h;cases h) _ _ _ _ _,p2.put5 zR4 ns_no ns_no ns_no (by intro x h;cases h) (by intro x h;cases h) _ _ _ _ _,p3.put5 zR4 ns_no ns_no ns_no (by intro x h;cases h) (by intro x h;cases h) _ _ _ _ _⟩,below_put5 yb4 hgl _ _ _ _ _⟩
theorem fits_any (v:Value) (n m E f:Nat) (ev:Bool) (k:Int) (an:Option Addr) (cn:Nat) (w:World) (hv:VB w m (lmL E f) (4*lmM E f+2) (lmX E) (decide (f%2=0)) v) (hn:Ns .u32 w an cn (limbs n)) (ln:(limbs n).length≤10000) (hE:E<2047) (hf:f<4503599627370496) (hk: -10000≤k∧k≤10000):
 Calls Tryz.prog 164 #[v,.slice an (limbs n).length cn,.int .i64 k] w fun e w'=>e=.returned (.bool (fitP E f n k))∧Below w.heap.size w w':=by
 obtain ⟨a,b,c,d,e,g,rfl,-,hl,hh⟩:=hv
 have hM:lmM E f<9007199254740992:=by unfold lmM;split<;>omega
 have lL:(limbs (lmL E f)).length≤10000:=by
  have h9:lmL E f<2^64:=by unfold lmL;split<;>omega
  exact Nat.le_trans (limbs_short2 64 3 (by omega) _ h9) (by omega)
 have lH:(limbs (4*lmM E f+2)).length≤10000:=by
  have h9:4*lmM E f+2<2^64:=by omega
  exact Nat.le_trans (limbs_short2 64 3 (by omega) _ h9) (by omega)
 have hxb: -20000≤lmX E∧lmX E≤20000:=by unfold lmX lmH;omega
 obtain ⟨c1,hc1⟩: ∃z,z=cmpT n k (lmL E f) (lmX E):=⟨_,rfl⟩
 obtain ⟨c2,hc2⟩: ∃z,z=cmpT n k (4*lmM E f+2) (lmX E):=⟨_,rfl⟩
 obtain ⟨ev,hev⟩: ∃z,z=decide (f%2=0):=⟨_,rfl⟩
 have HF:=hid (show fitP E f n k=((decide (0<c1)&&decide (c2<0))||(ev&&(decide (c1=0)||decide (c2=0)))) by rw [hc1,hc2,hev];rfl)
 obtain ⟨F,hF⟩: ∃F,F=fitP E f n k:=⟨_,rfl⟩
 have HFF:=hid (show F=((decide (0<c1)&&decide (c2<0))||(ev&&(decide (c1=0)||decide (c2=0)))) by rw [hF];exact HF.out)
 rw [←hF]
 clear hF
 rw [←hev]
 obtain ⟨x,hx⟩: ∃x,x=lmX E:=⟨_,rfl⟩
 rw [←hx] at hxb
 have S1:=hid (fun w h0 h1=>by
  have h9:=shCmp_any n (lmL E f) k x an b cn e w h0 h1 ln lL hk hxb
  rwa [hx,←hc1,←hx] at h9)
 have S2:=hid (fun w h0 h1=>by
  have h9:=shCmp_any n (4*lmM E f+2) k x an c cn g w h0 h1 ln lH hk hxb
  rwa [hx,←hc2,←hx] at h9)
 rw [←hx]
 have y0:=below_alloc w (.cells #[.slice a (limbs m).length d,.slice b (limbs (lmL E f)).length e,.slice c (limbs (4*lmM E f+2)).length g,.int .i64 x,.bool ev] 191)
 have zB:=B5.made (t:=191) (w:=w) (v0:=.slice a (limbs m).length d) (v1:=.slice b (limbs (lmL E f)).length e) (v2:=.slice c (limbs (4*lmM E f+2)).length g) (v3:=.int .i64 x) (v4:=.bool ev) rfl
 have hn':=hn.below y0
 have hl':=hl.below y0
 have hh':=hh.below y0
 clear hc1 hc2 hev hx hn hl hh HF hM lL lH
 go_enter Tryz.func164,Tryz.ntmps164
 go_upto_region 1 with fail
 refine wp_worldZ (fun WW=>Below w.heap.size w WW∧B5 191 WW w.heap.size (.slice a (limbs m).length d) (.slice b (limbs (lmL E f)).length e) (.slice c (limbs (4*lmM E f+2)).length g) (.int .i64 x) (.bool ev)∧Ns .u32 WW an cn (limbs n)∧Ns .u32 WW b e (limbs (lmL E f))∧Ns .u32 WW c g (limbs (4*lmM E f+2))) ⟨y0,zB,hn',hl',hh'⟩ ?_
 intro W1 ⟨y1,zB1,n1,l1,h1⟩
 obtain ⟨g3,hg3⟩: ∃g,g=w.heap.size:=⟨_,rfl⟩
 rw [←hg3] at zB1 ⊢
 clear hg3 zB y0 hn' hl' hh'
 refine wp_region_grow 16 [9,10,11,12,13,14,15,16,17,18,19,20,21,22,7,8] [Fact.is (.slice an (limbs n).length cn),Fact.is (.int .i64 k),Fact.is (.pointer (some ⟨g3,1,none⟩)),Fact.is (.slice b (limbs (lmL E f)).length e),Fact.is (.pointer (some ⟨g3,3,none⟩)),Fact.is (.int .i64 x),Fact.is (.int .i64 c1),Fact.is (.slice an (limbs n).length cn),Fact.is (.int .i64 k),Fact.is (.pointer (some ⟨g3,2,none⟩)),Fact.is (.slice c (limbs (4*lmM E f+2)).length g),Fact.is (.pointer (some ⟨g3,3,none⟩)),Fact.is (.int .i64 x),Fact.is (.int .i64 c2),Fact.is (.int .i64 c1),Fact.is (.int .i64 c2)] (by kernel_rfl) (by kernel_rfl) ⟨?o0,?o1,?o2,?o3,?o4,?o5,?o6,?o7,?o8,?o9,?o10,?o11,?o12,?o13,?o14,?o15,trivial⟩ ?after
 case o0=>(refine oQ rfl ?_;intro ρ w1 R hcon hfn hρ hb hp hR;have e1:ρ (.tmp 1)=.slice an (limbs n).length cn:=hρ.tmp 1 rfl;clear hρ hp;unfold OpRun;go_simp;exact hR _ _ (Below.refl _ _) rfl)
 case o1=>(refine oQ rfl ?_;intro ρ w1 R hcon hfn hρ hb hp hR;have e2:ρ (.tmp 2)=.int .i64 k:=hρ.tmp 2 rfl;clear hρ hp;unfold OpRun;go_simp;exact hR _ _ (Below.refl _ _) rfl)
 case o2=>(refine oQ rfl ?_;intro ρ w1 R hcon hfn hρ hb hp hR;have e3:ρ (.tmp 3)=.pointer (some ⟨g3,0,none⟩):=hρ.tmp 3 rfl;clear hρ hp;unfold OpRun;go_simp;exact hR _ _ (Below.refl _ _) rfl)
 case o3=>(refine oQ rfl ?_;intro ρ w1 R hcon hfn hρ hb hp hR;have e11:ρ (.tmp 11)=_:=hp 2 11 rfl rfl;obtain ⟨j0,j1,j2,j3,j4,-⟩:=zB1.below hb;clear hρ hp;unfold OpRun;go_simp;exact hR _ _ (Below.refl _ _) rfl)
 case o4=>(refine oQ rfl ?_;intro ρ w1 R hcon hfn hρ hb hp hR;have e3:ρ (.tmp 3)=.pointer (some ⟨g3,0,none⟩):=hρ.tmp 3 rfl;clear hρ hp;unfold OpRun;go_simp;exact hR _ _ (Below.refl _ _) rfl)
 case o5=>(refine oQ rfl ?_;intro ρ w1 R hcon hfn hρ hb hp hR;have e13:ρ (.tmp 13)=_:=hp 4 13 rfl rfl;obtain ⟨j0,j1,j2,j3,j4,-⟩:=zB1.below hb;clear hρ hp;unfold OpRun;go_simp;exact hR _ _ (Below.refl _ _) rfl)
 case o6=>(refine oQ rfl ?_;intro ρ w1 R hcon hfn hρ hb hp hR;have e9:ρ (.tmp 9)=_:=hp 0 9 rfl rfl;have e10:ρ (.tmp 10)=_:=hp 1 10 rfl rfl;have e12:ρ (.tmp 12)=_:=hp 3 12 rfl rfl;have e14:ρ (.tmp 14)=_:=hp 5 14 rfl rfl;clear hρ hp;unfold OpRun;go_simp;(refine (S1.out _ (n1.below hb) (l1.below hb)).mono ?_;rintro e wn ⟨rfl,hbn⟩;exact ⟨_,rfl,hR _ _ hbn rfl⟩))
 case o7=>(refine oQ rfl ?_;intro ρ w1 R hcon hfn hρ hb hp hR;have e1:ρ (.tmp 1)=.slice an (limbs n).length cn:=hρ.tmp 1 rfl;clear hρ hp;unfold OpRun;go_simp;exact hR _ _ (Below.refl _ _) rfl)
 case o8=>(refine oQ rfl ?_;intro ρ w1 R hcon hfn hρ hb hp hR;have e2:ρ (.tmp 2)=.int .i64 k:=hρ.tmp 2 rfl;clear hρ hp;unfold OpRun;go_simp;exact hR _ _ (Below.refl _ _) rfl)
 case o9=>(refine oQ rfl ?_;intro ρ w1 R hcon hfn hρ hb hp hR;have e3:ρ (.tmp 3)=.pointer (some ⟨g3,0,none⟩):=hρ.tmp 3 rfl;clear hρ hp;unfold OpRun;go_simp;exact hR _ _ (Below.refl _ _) rfl)
 case o10=>(refine oQ rfl ?_;intro ρ w1 R hcon hfn hρ hb hp hR;have e18:ρ (.tmp 18)=_:=hp 9 18 rfl rfl;obtain ⟨j0,j1,j2,j3,j4,-⟩:=zB1.below hb;clear hρ hp;unfold OpRun;go_simp;exact hR _ _ (Below.refl _ _) rfl)
 case o11=>(refine oQ rfl ?_;intro ρ w1 R hcon hfn hρ hb hp hR;have e3:ρ (.tmp 3)=.pointer (some ⟨g3,0,none⟩):=hρ.tmp 3 rfl;clear hρ hp;unfold OpRun;go_simp;exact hR _ _ (Below.refl _ _) rfl)
 case o12=>(refine oQ rfl ?_;intro ρ w1 R hcon hfn hρ hb hp hR;have e20:ρ (.tmp 20)=_:=hp 11 20 rfl rfl;obtain ⟨j0,j1,j2,j3,j4,-⟩:=zB1.below hb;clear hρ hp;unfold OpRun;go_simp;exact hR _ _ (Below.refl _ _) rfl)
 case o13=>(refine oQ rfl ?_;intro ρ w1 R hcon hfn hρ hb hp hR;have e16:ρ (.tmp 16)=_:=hp 7 16 rfl rfl;have e17:ρ (.tmp 17)=_:=hp 8 17 rfl rfl;have e19:ρ (.tmp 19)=_:=hp 10 19 rfl rfl;have e21:ρ (.tmp 21)=_:=hp 12 21 rfl rfl;clear hρ hp;unfold OpRun;go_simp;(refine (S2.out _ (n1.below hb) (h1.below hb)).mono ?_;rintro e wn ⟨rfl,hbn⟩;exact ⟨_,rfl,hR _ _ hbn rfl⟩))
 case o14=>(refine oQ rfl ?_;intro ρ w1 R hcon hfn hρ hb hp hR;have e15:ρ (.tmp 15)=_:=hp 6 15 rfl rfl;clear hρ hp;unfold OpRun;go_simp;exact hR _ _ (Below.refl _ _) rfl)
 case o15=>(refine oQ rfl ?_;intro ρ w1 R hcon hfn hρ hb hp hR;have e22:ρ (.tmp 22)=_:=hp 13 22 rfl rfl;clear hρ hp;unfold OpRun;go_simp;exact hR _ _ (Below.refl _ _) rfl)
 case after=>
  intro u wn hb hf
  have e7:u 7=_:=hf 14 7 (by omega) rfl
  have e8:u 8=_:=hf 15 8 (by omega) rfl
  clear hf
  simp only [putAll,Act.put,List.setIfInBounds_toArray,List.set_cons_zero,List.set_cons_succ,List.drop_succ_cons,List.drop_zero,List.drop_nil]
  rw [e7,e8]
  have zB2:=zB1.below hb
  obtain ⟨j0,j1,j2,j3,j4,-⟩:=id zB2
  have yb:=below_trans y1 hb
  by_cases a1:0<c1
  ·by_cases a2:c2<0
   ·have H5:=hid (show F=true by rw [HFF.out];simp [a1,a2])
    clear HFF
    go_wp2_with fail
    go_ret
    exact ⟨by rw [H5.out];rfl,yb⟩
   ·have a3:(c1==0)=false:=beq_eq_false_iff_ne.2 (by omega)
    have a4: ¬c1=0:=by omega
    cases ev
    ·have H5:=hid (show F=false by rw [HFF.out];simp [a1,a2])
     clear HFF
     go_wp2_with fail
     go_ret
     exact ⟨by rw [H5.out];rfl,yb⟩
    ·by_cases a5:c2=0
     ·have a6:(c2==0)=true:=beq_iff_eq.2 a5
      have H5:=hid (show F=true by rw [HFF.out];simp [a1,a2,a4,a5])
      clear HFF a4 a5
      go_wp2_with fail
      go_ret
      exact ⟨by rw [H5.out];rfl,yb⟩
     ·have a6:(c2==0)=false:=beq_eq_false_iff_ne.2 a5
      have H5:=hid (show F=false by rw [HFF.out];simp [a1,a2,a4,a5])
      clear HFF a4 a5
      go_wp2_with fail
      go_ret
      exact ⟨by rw [H5.out];rfl,yb⟩
  ·cases ev
   ·have H5:=hid (show F=false by rw [HFF.out];simp [a1])
    clear HFF
    go_wp2_with fail
    go_ret
    exact ⟨by rw [H5.out];rfl,yb⟩
   ·by_cases a3:c1=0
    ·have a4:(c1==0)=true:=beq_iff_eq.2 a3
     have H5:=hid (show F=true by rw [HFF.out];simp [a1,a3])
     clear HFF a3
     go_wp2_with fail
     go_ret
     exact ⟨by rw [H5.out];rfl,yb⟩
    ·have a4:(c1==0)=false:=beq_eq_false_iff_ne.2 a3
     by_cases a5:c2=0
     ·have a6:(c2==0)=true:=beq_iff_eq.2 a5
      have H5:=hid (show F=true by rw [HFF.out];simp [a1,a3,a5])
      clear HFF a3 a5
      go_wp2_with fail
      go_ret
      exact ⟨by rw [H5.out];rfl,yb⟩
     ·have a6:(c2==0)=false:=beq_eq_false_iff_ne.2 a5
      have H5:=hid (show F=false by rw [HFF.out];simp [a1,a3,a5])
      clear HFF a3 a5
      go_wp2_with fail
      go_ret
      exact ⟨by rw [H5.out];rfl,yb⟩
end Go.Proofs.YtfphmlmgjhebjaaGreatDoor
