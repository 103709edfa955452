/- WantedSays: what the proof leans on, part 21 (Tx9 Tx10 Tx11). -/
import Derived.Test.YtfphmlmgjhebjaaGreatDoorKWantedSays17
import Derived.Test.YtfphmlmgjhebjaaGreatDoorKWantedSays20
set_option linter.unusedVariables false
set_option linter.unusedSimpArgs false
namespace Go.Ulp
open Go.RowKit
theorem dsh_app (n:Bool) (L:List UInt8):(if n=true then [45] else [])++L=dsh n L:=by unfold dsh;cases n<;>rfl
theorem fv_small (x:Int) (h0:0≤x) (h1:x<18446744073709551616):(limbs (fv x).1.natAbs).length≤2∧ -1074≤(fv x).2∧(fv x).2≤1024:=by
 obtain ⟨-,h2,h3,h4⟩:=fv_bd x h0 h1
 exact ⟨limbs_short2 53 2 (by omega) _ h2,h3,h4⟩
theorem dA_bits (D:Dy) (h:D.1.natAbs<2^53) (h2:D.2≤1024) (E:Nat) (hE:1077≤E):dA D<2^E:=by
 unfold dA
 obtain ⟨K,hK⟩: ∃K,K=D.2.toNat:=⟨_,rfl⟩
 rw [←hK]
 have h3:2^(53+K)≤2^E:=Nat.pow_le_pow_right (by omega) (by omega)
 rw [Nat.pow_add] at h3
 exact Nat.lt_of_lt_of_le (Nat.mul_lt_mul_of_pos_right h (Nat.two_pow_pos _)) h3
theorem tn_bits (p:Int) (P:Nat) (h:p≤P):tnN p<2^(4*P+1):=by
 unfold tnN
 have h1:(10:Nat)^p.toNat≤10^P:=Nat.pow_le_pow_right (by omega) (by omega)
 have h2:(10:Nat)^P≤(2^4)^P:=Nat.pow_le_pow_left (by decide) P
 rw [←Nat.pow_mul] at h2
 rw [Nat.pow_succ]
 have:=Nat.two_pow_pos (4*P)
 omega
theorem mul_bits {a b A B:Nat} (h:a<2^A) (k:b<2^B):a*b<2^(A+B):=by
 rw [Nat.pow_add];exact Nat.mul_lt_mul'' h k
theorem dB_bits (D:Dy) (h: -1074≤D.2) (E:Nat) (hE:1077≤E):dB D<2^E:=by
 unfold dB;exact Nat.pow_lt_pow_right (by omega) (by omega)
theorem scaled_bits (D:Dy) (t:Int) (P:Nat) (h:D.1.natAbs<2^53) (h2:D.2≤1024) (h3: -1074≤D.2) (hP: -(P:Int)≤t∧t≤P) (E:Nat) (hE:1077+(4*P+1)≤E):
 dA D*tnN t<2^E∧dB D*tnN (-t)<2^E:=by
 obtain ⟨F,hF⟩: ∃F,E=F+(4*P+1):=⟨E-(4*P+1),by omega⟩
 rw [hF]
 exact ⟨mul_bits (dA_bits D h h2 F (by omega)) (tn_bits t P hP.2),mul_bits (dB_bits D h3 F (by omega)) (tn_bits (-t) P (by omega))⟩
end Go.Ulp
namespace Go.Proofs.YtfphmlmgjhebjaaGreatDoor
open Go.RowKit Go.Ulp
set_option maxHeartbeats 2000000
set_option maxRecDepth 100000
end Go.Proofs.YtfphmlmgjhebjaaGreatDoor
namespace Go.Ulp
open Go.RowKit
theorem less_dec {a b:Nat} {p:Int} (h:IsDec a b p) (c:Int):lessT a b c=decide (p<c):=by
 by_cases h1:p<c
 ·rw [decide_eq_true h1]
  have:=lessT_le a b (p+1) (c-(p+1)).toNat h.2
  rwa [show p+1+((c-(p+1)).toNat:Int)=c by omega] at this
 ·rw [decide_eq_false h1]
  cases hh:lessT a b c with
  |false=>rfl
  |true=>
   have:=lessT_le a b c (p-c).toNat hh
   rw [show c+((p-c).toNat:Int)=p by omega,h.1] at this
   cases this
theorem less_low (a b:Nat) (N:Nat) (ha:0<a) (hb:b<2^N) (p:Int) (hp:p≤ -(N:Int)):lessT a b p=false:=by
 refine decide_eq_false ?_
 unfold tnN
 rw [show p.toNat=0 by omega,Nat.pow_zero,Nat.mul_one]
 have h1:(2:Nat)^N≤10^N:=Nat.pow_le_pow_left (by omega) N
 have h2:(10:Nat)^N≤10^(-p).toNat:=Nat.pow_le_pow_right (by omega) (by omega)
 have h3:10^(-p).toNat≤a*10^(-p).toNat:=Nat.le_mul_of_pos_left _ ha
 omega
theorem less_high (a b:Nat) (N:Nat) (hb:0<b) (ha:a<2^N) (p:Int) (hp:(N:Int)≤p):lessT a b p=true:=by
 refine decide_eq_true ?_
 unfold tnN
 rw [show (-p).toNat=0 by omega,Nat.pow_zero,Nat.mul_one]
 have h1:(2:Nat)^N≤10^N:=Nat.pow_le_pow_left (by omega) N
 have h2:(10:Nat)^N≤10^p.toNat:=Nat.pow_le_pow_right (by omega) (by omega)
 have h3:10^p.toNat≤b*10^p.toNat:=Nat.le_mul_of_pos_left _ hb
 omega
theorem dec_exists (a b N:Nat) (h0:0<a) (h1:0<b) (ha:a<2^N) (hb:b<2^N): ∃p:Int,IsDec a b p∧ -(N:Int)≤p∧p<N:=by
 have key: ∀k:Nat,lessT a b (-(N:Int)+k)=false∨ ∃p:Int,IsDec a b p∧ -(N:Int)≤p∧p< -(N:Int)+k:=by
  intro k
  induction k with
  |zero=>left;exact less_low a b N h0 hb _ (by omega)
  |succ k ih=>
   rcases ih with h|⟨p,h2,h3,h4⟩
   ·cases hh:lessT a b (-(N:Int)+((k+1:Nat):Int)) with
    |false=>left;rfl
    |true=>
     right
     refine ⟨-(N:Int)+k,⟨h,?_⟩,by omega,by omega⟩
     rwa [show -(N:Int)+(k:Int)+1= -(N:Int)+((k+1:Nat):Int) by omega]
   ·exact .inr ⟨p,h2,h3,by omega⟩
 rcases key (2*N) with h|⟨p,h2,h3,h4⟩
 ·have:=less_high a b N h1 ha (-(N:Int)+((2*N:Nat):Int)) (by omega)
  rw [h] at this;cases this
 ·exact ⟨p,h2,h3,by omega⟩
theorem tdiv_bd (a:Int) (h: -90309000≤a∧a≤90309000): -904≤a.tdiv 100000∧a.tdiv 100000≤904:=by
 rcases Int.le_total 0 a with h0|h0
 ·rw [Int.tdiv_eq_ediv_of_nonneg h0];omega
 ·obtain ⟨c,rfl⟩: ∃c,a= -c:=⟨-a,by omega⟩
  rw [Int.neg_tdiv,Int.tdiv_eq_ediv_of_nonneg (by omega)];omega
end Go.Ulp
namespace Go.Proofs.YtfphmlmgjhebjaaGreatDoor
open Go.RowKit Go.Ulp
set_option maxHeartbeats 2000000
set_option maxRecDepth 100000
theorem less1_any (g:Nat) (D:Dy) (am:Option Addr) (cm:Nat) (pd c:Int) (w:World) (hz:QL 67 w g (decide (D.1<0)) (.slice am (limbs D.1.natAbs).length cm) D.2) (hN:Ns .u32 w am cm (limbs D.1.natAbs)) (hl:(limbs D.1.natAbs).length≤1000) (he: -20000≤D.2∧D.2≤20000) (hc: -10000≤c∧c≤10000) (hp:IsDec (dA D) (dB D) pd):
 Calls Tryz.prog 220 #[.int .i64 c,.pointer (some ⟨g,0,none⟩)] w fun e w'=>e=.returned (.bool (decide (pd<c)))∧Below w.heap.size w w':=by
 have SC:=hid (show ∀w,Ns .u32 w am cm (limbs D.1.natAbs)→Calls Tryz.prog 182 #[.agg #[.bool (decide (D.1<0)),.slice am (limbs D.1.natAbs).length cm,.int .i64 D.2],.int .i64 (-c)] w (RetRat w (decide (D.1<0)) (dA D*tnN (-c)) (dB D*tnN c)) from fun w h=>by
  have h9:=scaled_any _ D (-c) w ⟨am,cm,rfl,h⟩ hl he (by omega)
  rwa [show- -c=c by omega] at h9)
 obtain ⟨A,hA⟩: ∃A,A=dA D*tnN (-c):=⟨_,rfl⟩
 obtain ⟨B,hB⟩: ∃B,B=dB D*tnN c:=⟨_,rfl⟩
 have HL:=hid (show decide (cmpI (A:Int) (B:Int)<0)=decide (pd<c) by
  rw [←less_dec hp c]
  unfold lessT
  rw [decide_eq_decide,cmpI_lt,hA,hB]
  omega)
 rw [←hA,←hB] at SC
 have CM:=hid (show ∀a0 a1 c0 c1 w,Ns .u32 w a0 c0 (limbs A)→Ns .u32 w a1 c1 (limbs B)→Calls Tryz.prog 210 #[.slice a0 (limbs A).length c0,.slice a1 (limbs B).length c1] w fun e w'=>e=.returned (.int .i64 (cmpI A B))∧Below w.heap.size w w' from fun a0 a1 c0 c1 w h0 h1=>(compare_any a0 a1 c0 c1 A B w h0 h1).mono fun e w' ⟨k1,nq,k2⟩=>⟨k1,by rw [k2];exact below_drewN (Below.refl _ _) nq⟩)
 have hwc:IntKind.i64.wrap (-c)= -c:=IntWalk.i64_in _ (by omega)
 have HN:=hid hN
 obtain ⟨⟨j0,j1,-⟩,j2,-⟩:=id hz
 generalize decide (D.1<0)=neg at *
 generalize decide (pd<c)=bb at *
 clear hA hB hN hz hl he hp
 go_enter Tryz.func220,Tryz.ntmps220
 go_upto_region 2 with (go_at_call 182;(with_reducible refine (SC.out _ HN.out).mono ?_);rintro en w1 ⟨g4,rfl,⟨an,cn,bn,dn,k0,k3,k4,hNa,hNb⟩,hb1⟩)
 have NA:=hid hNa
 have NB:=hid hNb
 refine wp_region_grow 11 [9,10,11,12,13,14,15,16,17,18,3] [Fact.is (.pointer (some ⟨g4,0,none⟩)),Fact.is (.pointer (some ⟨g4,0,none⟩)),Fact.is (.pointer (some ⟨g4,3,none⟩)),Fact.is (.slice an (limbs A).length cn),Fact.is (.pointer (some ⟨g4,0,none⟩)),Fact.is (.pointer (some ⟨g4,0,none⟩)),Fact.is (.pointer (some ⟨g4,4,none⟩)),Fact.is (.slice bn (limbs B).length dn),Fact.is (.int .i64 (cmpI A B)),Fact.is (.bool bb),Fact.is (.bool bb)] (by kernel_rfl) (by kernel_rfl) ⟨?o0,?o1,?o2,?o3,?o4,?o5,?o6,?o7,?o8,?o9,?o10,trivial⟩ ?after
 case o0=>(refine oQ rfl ?_;intro ρ w1 R hcon hfn hρ hb hp hR;have e4:ρ (.tmp 4)=.pointer (some ⟨g4,0,none⟩):=hρ.tmp 4 rfl;clear hρ hp;unfold OpRun;go_simp;exact hR _ _ (Below.refl _ _) rfl)
 case o1=>(refine oQ rfl ?_;intro ρ w1 R hcon hfn hρ hb hp hR;have e9:ρ (.tmp 9)=_:=hp 0 9 rfl rfl;clear hρ hp;unfold OpRun;go_simp;exact hR _ _ (Below.refl _ _) rfl)
 case o2=>(refine oQ rfl ?_;intro ρ w1 R hcon hfn hρ hb hp hR;have e10:ρ (.tmp 10)=_:=hp 1 10 rfl rfl;clear hρ hp;unfold OpRun;go_simp;exact hR _ _ (Below.refl _ _) rfl)
 case o3=>(refine oQ rfl ?_;intro ρ w1 R hcon hfn hρ hb hp hR;have e11:ρ (.tmp 11)=_:=hp 2 11 rfl rfl;have j3:=(hb.cell (World.block_lt_of_cell? _ _ k3)).trans k3;clear hρ hp;unfold OpRun;go_simp;exact hR _ _ (Below.refl _ _) rfl)
 case o4=>(refine oQ rfl ?_;intro ρ w1 R hcon hfn hρ hb hp hR;have e4:ρ (.tmp 4)=.pointer (some ⟨g4,0,none⟩):=hρ.tmp 4 rfl;clear hρ hp;unfold OpRun;go_simp;exact hR _ _ (Below.refl _ _) rfl)
 case o5=>(refine oQ rfl ?_;intro ρ w1 R hcon hfn hρ hb hp hR;have e13:ρ (.tmp 13)=_:=hp 4 13 rfl rfl;clear hρ hp;unfold OpRun;go_simp;exact hR _ _ (Below.refl _ _) rfl)
 case o6=>(refine oQ rfl ?_;intro ρ w1 R hcon hfn hρ hb hp hR;have e14:ρ (.tmp 14)=_:=hp 5 14 rfl rfl;clear hρ hp;unfold OpRun;go_simp;exact hR _ _ (Below.refl _ _) rfl)
 case o7=>(refine oQ rfl ?_;intro ρ w1 R hcon hfn hρ hb hp hR;have e15:ρ (.tmp 15)=_:=hp 6 15 rfl rfl;have j4:=(hb.cell (World.block_lt_of_cell? _ _ k4)).trans k4;clear hρ hp;unfold OpRun;go_simp;exact hR _ _ (Below.refl _ _) rfl)
 case o8=>(refine oQ rfl ?_;intro ρ w1 R hcon hfn hρ hb hp hR;have e12:ρ (.tmp 12)=_:=hp 3 12 rfl rfl;have e16:ρ (.tmp 16)=_:=hp 7 16 rfl rfl;clear hρ hp;unfold OpRun;go_simp;(refine (CM.out _ _ _ _ _ (NA.out.below hb) (NB.out.below hb)).mono ?_;rintro e wn ⟨rfl,hbn⟩;exact ⟨_,rfl,hR _ _ hbn rfl⟩))
 case o9=>(refine oQ rfl ?_;intro ρ w1 R hcon hfn hρ hb hp hR;have e17:ρ (.tmp 17)=_:=hp 8 17 rfl rfl;have hx9:=HL.out;clear hρ hp;unfold OpRun;go_simp;exact hR _ _ (Below.refl _ _) rfl)
 case o10=>(refine oQ rfl ?_;intro ρ w1 R hcon hfn hρ hb hp hR;have e18:ρ (.tmp 18)=_:=hp 9 18 rfl rfl;clear hρ hp;unfold OpRun;go_simp;exact hR _ _ (Below.refl _ _) rfl)
 case after=>
  intro u wn hb hf
  have e3:u 3=_:=hf 10 3 (by omega) rfl
  clear hf
  simp only [putAll,Act.put,List.setIfInBounds_toArray,List.set_cons_zero,List.set_cons_succ,List.drop_succ_cons,List.drop_zero,List.drop_nil]
  rw [e3]
  go_wp2_with fail
  go_ret
  exact ⟨rfl,below_trans hb1 hb⟩
theorem log10_any (v:Value) (D:Dy) (pd:Int) (w:World) (hv:VD w D v) (hl:D.1.natAbs<2^60) (he: -2000≤D.2∧D.2≤2000) (hp:IsDec (dA D) (dB D) pd) (hpb: -3000≤pd∧pd≤3000):
 Calls Tryz.prog 161 #[v] w fun e w'=>e=.returned (.int .i64 pd)∧Below w.heap.size w w':=by
 obtain ⟨am,cm,rfl,hN⟩:=hv
 have lM:=limbs_short2 60 2 (by omega) _ hl
 have hbl:bl D.1.natAbs≤60:=(bl_le _ 60).2 hl
 have LN:=hid (fun w h=>natLen_any am cm D.1.natAbs w h (by omega))
 have LE:=hid (fun g c w z h hc=>less1_any g D am cm pd c w z h (by omega) (by omega) hc hp)
 obtain ⟨l,hlb⟩: ∃l,l=bl D.1.natAbs:=⟨_,rfl⟩
 rw [←hlb] at LN hbl
 obtain ⟨x,hx⟩: ∃x,x=D.2:=⟨_,rfl⟩
 rw [←hx] at LE he ⊢
 obtain ⟨p0,hp0⟩: ∃p0,p0=(((l:Int)+x-1)*30103).tdiv 100000:=⟨_,rfl⟩
 have hpb0:=tdiv_bd (((l:Int)+x-1)*30103) (by omega)
 rw [←hp0] at hpb0
 have HP0:=hid hp0.symm
 have HN:=hid hN
 have hmf: ∀fn first cap w,(Instr.makeFunc fn first cap).run Tryz.prog w=.ok (.func fn first cap) w:=fun _ _ _ _=>rfl
 have zQ:QL 67 (w.alloc (.cells #[.bool (decide (D.1<0)),.slice am (limbs D.1.natAbs).length cm,.int .i64 x] 67)) w.heap.size (decide (D.1<0)) (.slice am (limbs D.1.natAbs).length cm) x:=QL.made rfl
 have yb0:=below_alloc w (.cells #[.bool (decide (D.1<0)),.slice am (limbs D.1.natAbs).length cm,.int .i64 x] 67)
 clear hp0 hlb hx hN lM hp hl
 go_enter Tryz.func161,Tryz.ntmps161
 go_upto_region 1 with fail
 refine wp_worldZ (fun WW=>Below w.heap.size w WW∧QL 67 WW w.heap.size (decide (D.1<0)) (.slice am (limbs D.1.natAbs).length cm) x∧Ns .u32 WW am cm (limbs D.1.natAbs)) ⟨yb0,zQ,HN.out.below yb0⟩ ?_
 intro W1 ⟨y1,z1,hN1⟩
 obtain ⟨g1,hg1⟩: ∃g,g=w.heap.size:=⟨_,rfl⟩
 rw [←hg1] at z1 ⊢
 have H1:=hid z1
 have HN1:=hid hN1
 clear hg1 zQ yb0 HN hN1 z1
 refine wp_region_grow 10 [5,6,7,8,9,10,11,12,13,3] [Fact.is (.pointer (some ⟨g1,1,none⟩)),Fact.is (.slice am (limbs D.1.natAbs).length cm),Fact.is (.int .i64 (l:Int)),Fact.is (.pointer (some ⟨g1,2,none⟩)),Fact.is (.int .i64 x),Fact.is (.int .i64 ((l:Int)+x)),Fact.is (.int .i64 ((l:Int)+x-1)),Fact.is (.int .i64 (((l:Int)+x-1)*30103)),Fact.is (.int .i64 p0),Fact.is (.int .i64 p0)] (by kernel_rfl) (by kernel_rfl) ⟨?o0,?o1,?o2,?o3,?o4,?o5,?o6,?o7,?o8,?o9,trivial⟩ ?after
 case o0=>(refine oQ rfl ?_;intro ρ w1 R hcon hfn hρ hb hp hR;have e1:ρ (.tmp 1)=.pointer (some ⟨g1,0,none⟩):=hρ.tmp 1 rfl;clear hρ hp;unfold OpRun;go_simp;exact hR _ _ (Below.refl _ _) rfl)
 case o1=>(refine oQ rfl ?_;intro ρ w1 R hcon hfn hρ hb hp hR;have e5:ρ (.tmp 5)=_:=hp 0 5 rfl rfl;obtain ⟨⟨j0,j1,-⟩,j2,-⟩:=H1.out.below hb;clear hρ hp;unfold OpRun;go_simp;exact hR _ _ (Below.refl _ _) rfl)
 case o2=>(refine oQ rfl ?_;intro ρ w1 R hcon hfn hρ hb hp hR;have e6:ρ (.tmp 6)=_:=hp 1 6 rfl rfl;clear hρ hp;unfold OpRun;go_simp;(refine (LN.out _ (HN1.out.below hb)).mono ?_;rintro e wn ⟨rfl,rfl⟩;exact ⟨_,rfl,hR _ _ (Below.refl _ _) rfl⟩))
 case o3=>(refine oQ rfl ?_;intro ρ w1 R hcon hfn hρ hb hp hR;have e1:ρ (.tmp 1)=.pointer (some ⟨g1,0,none⟩):=hρ.tmp 1 rfl;clear hρ hp;unfold OpRun;go_simp;exact hR _ _ (Below.refl _ _) rfl)
 case o4=>(refine oQ rfl ?_;intro ρ w1 R hcon hfn hρ hb hp hR;have e8:ρ (.tmp 8)=_:=hp 3 8 rfl rfl;obtain ⟨⟨j0,j1,-⟩,j2,-⟩:=H1.out.below hb;clear hρ hp;unfold OpRun;go_simp;exact hR _ _ (Below.refl _ _) rfl)
 case o5=>(refine oQ rfl ?_;intro ρ w1 R hcon hfn hρ hb hp hR;have e7:ρ (.tmp 7)=_:=hp 2 7 rfl rfl;have e9:ρ (.tmp 9)=_:=hp 4 9 rfl rfl;have hw9:IntKind.i64.wrap ((l:Int)+x)=(l:Int)+x:=IntWalk.i64_in _ (by omega);clear hρ hp;unfold OpRun;go_simp;exact hR _ _ (Below.refl _ _) rfl)
 case o6=>(refine oQ rfl ?_;intro ρ w1 R hcon hfn hρ hb hp hR;have e10:ρ (.tmp 10)=_:=hp 5 10 rfl rfl;have hw9:IntKind.i64.wrap ((l:Int)+x-1)=(l:Int)+x-1:=IntWalk.i64_in _ (by omega);clear hρ hp;unfold OpRun;go_simp;exact hR _ _ (Below.refl _ _) rfl)
 case o7=>(refine oQ rfl ?_;intro ρ w1 R hcon hfn hρ hb hp hR;have e11:ρ (.tmp 11)=_:=hp 6 11 rfl rfl;have hw9:IntKind.i64.wrap (((l:Int)+x-1)*30103)=((l:Int)+x-1)*30103:=IntWalk.i64_in _ (by omega);clear hρ hp;unfold OpRun;go_simp;exact hR _ _ (Below.refl _ _) rfl)
 case o8=>(refine oQ rfl ?_;intro ρ w1 R hcon hfn hρ hb hp hR;have e12:ρ (.tmp 12)=_:=hp 7 12 rfl rfl;have hx9:=HP0.out;have hw9:IntKind.i64.wrap p0=p0:=IntWalk.i64_in _ (by omega);clear hρ hp;unfold OpRun;go_simp;exact hR _ _ (Below.refl _ _) rfl)
 case o9=>(refine oQ rfl ?_;intro ρ w1 R hcon hfn hρ hb hp hR;have e13:ρ (.tmp 13)=_:=hp 8 13 rfl rfl;clear hρ hp;unfold OpRun;go_simp;exact hR _ _ (Below.refl _ _) rfl)
 case after=>
  intro u wn hb hf
  have e3:u 3=_:=hf 9 3 (by omega) rfl
  clear hf
  simp only [putAll,Act.put,List.setIfInBounds_toArray,List.set_cons_zero,List.set_cons_succ,List.drop_succ_cons,List.drop_zero,List.drop_nil]
  rw [e3]
  have y2:=below_trans y1 hb
  have H2:=hid (H1.out.below hb)
  have HN2:=hid (HN1.out.below hb)
  obtain ⟨W2,hW2⟩: ∃W,W=wn:=⟨_,rfl⟩
  subst hW2
  clear H1 HN1 y1 hb HP0 LN
  go_wp2_with fail
  go_loopw [3] (fun s3 wr=> ∃c:Int,s3=.int .i64 c∧ -3000≤c∧c≤3000∧Below W2.heap.size W2 wr) (fun s3 _=>(intOf s3-pd).toNat)
  case atStart=>exact ⟨p0,rfl,by omega,by omega,Below.refl _ _⟩
  case round=>
   obtain ⟨c,rfl,c1,c2,hbr⟩:=hrel
   have HLc:=hid (LE.out g1 c wr (H2.out.below hbr) (HN2.out.below hbr) (by omega))
   by_cases hpc:pd<c
   ·have hwc:IntKind.i64.wrap (c-1)=c-1:=IntWalk.i64_in _ (by omega)
    have HLd:=hid (show Calls Tryz.prog 220 #[.int .i64 c,.pointer (some ⟨g1,0,none⟩)] wr fun e w'=>e=.returned (.bool true)∧Below wr.heap.size wr w' from by
     have h9:=HLc.out
     rwa [decide_eq_true hpc] at h9)
    clear HLc
    go_wp2_with (go_at_call 220;(with_reducible refine HLd.out.mono ?_);rintro en w3 ⟨rfl,hb3⟩)
    go_roundw
    case rel=>exact ⟨c-1,rfl,by omega,by omega,below_trans hbr hb3⟩
    case measure=>simp [intOf];omega
   ·have HLd:=hid (show Calls Tryz.prog 220 #[.int .i64 c,.pointer (some ⟨g1,0,none⟩)] wr fun e w'=>e=.returned (.bool false)∧Below wr.heap.size wr w' from by
     have h9:=HLc.out
     rwa [decide_eq_false hpc] at h9)
    clear HLc
    have HLE:=hid (show c≤pd by omega)
    clear hpc
    go_wp2_with (go_at_call 220;(with_reducible refine HLd.out.mono ?_);rintro en w3 ⟨rfl,hb3⟩)
    have y3:=below_trans hbr hb3
    go_loopw [3] (fun s3 wq=> ∃d:Int,s3=.int .i64 d∧ -3000≤d∧d≤pd∧Below W2.heap.size W2 wq) (fun s3 _=>(pd-intOf s3).toNat)
    case atStart=>exact ⟨c,rfl,by omega,HLE.out,y3⟩
    case round=>
     obtain ⟨d,rfl,d1,d2,hbd⟩:=hrel
     have hwd:IntKind.i64.wrap (d+1)=d+1:=IntWalk.i64_in _ (by omega)
     have HLe:=hid (LE.out g1 (d+1) _ (H2.out.below hbd) (HN2.out.below hbd) (by omega))
     by_cases hpe:pd<d+1
     ·have HLf:=hid (show Calls Tryz.prog 220 #[.int .i64 (d+1),.pointer (some ⟨g1,0,none⟩)] _ fun e w'=>e=.returned (.bool true)∧Below _ _ w' from by
       have h9:=HLe.out
       rwa [decide_eq_true hpe] at h9)
      have hde:=hid (show d=pd by omega)
      clear HLe hpe
      go_wp2_with (go_at_call 220;(with_reducible refine HLf.out.mono ?_);rintro en w4 ⟨rfl,hb4⟩)
      go_ret
      exact ⟨by rw [←hde.out];rfl,below_trans (below_trans y2 hbd) hb4⟩
     ·have HLf:=hid (show Calls Tryz.prog 220 #[.int .i64 (d+1),.pointer (some ⟨g1,0,none⟩)] _ fun e w'=>e=.returned (.bool false)∧Below _ _ w' from by
       have h9:=HLe.out
       rwa [decide_eq_false hpe] at h9)
      have HDD:=hid (show d+1≤pd by omega)
      clear HLe hpe
      go_wp2_with (go_at_call 220;(with_reducible refine HLf.out.mono ?_);rintro en w4 ⟨rfl,hb4⟩)
      go_roundw
      case rel=>exact ⟨d+1,rfl,by omega,HDD.out,below_trans hbd hb4⟩
      case measure=>have:=HDD.out;simp [intOf];omega
theorem digitsZ_any (v:Value) (D:Dy) (k:Nat) (mode:Int) (w:World) (hv:VD w D v) (hD:D.1=0) (hk:k≤10000):
 Calls Tryz.prog 162 #[v,.int .i64 (k:Int),.int .i64 mode] w fun e w'=>e=.returned (.tuple #[.string (bsOf (List.replicate k 48)),.int .i64 0,.bool false])∧Below w.heap.size w w':=by
 obtain ⟨am,cm,rfl,hN⟩:=hv
 have hl0:(limbs D.1.natAbs).length=0:=by rw [hD];rfl
 rw [hl0]
 have RP:=hid (fun w=>repeat_any 48 k (by omega) w)
 have RP2:=hid (show ∀w,Calls Tryz.prog 70 #[.string ⟨#[48]⟩,.int .i64 (k:Int)] w fun e w'=>e=.returned (.string (bsOf (List.replicate k 48)))∧Below w.heap.size w w' from RP.out)
 have zQ:QL 67 (w.alloc (.cells #[.bool (decide (D.1<0)),.slice am 0 cm,.int .i64 D.2] 67)) w.heap.size (decide (D.1<0)) (.slice am 0 cm) D.2:=QL.made rfl
 have yb0:=below_alloc w (.cells #[.bool (decide (D.1<0)),.slice am 0 cm,.int .i64 D.2] 67)
 obtain ⟨⟨j0,j1,-⟩,j2,-⟩:=zQ
 clear hD hN RP
 generalize decide (D.1<0)=neg at *
 go_enter Tryz.func162,Tryz.ntmps162
 go_wp2_with (go_at_call 70;(with_reducible refine (RP2.out _).mono ?_);rintro en w1 ⟨rfl,hb1⟩)
 go_ret3
 exact ⟨rfl,below_trans yb0 hb1⟩
theorem digits10_any (v:Value) (D:Dy) (k:Nat) (mode pd:Int) (w:World) (hv:VD w D v) (hD:D.1≠0) (hl:D.1.natAbs<2^60) (he: -2000≤D.2∧D.2≤2000) (hp:IsDec (dA D) (dB D) pd) (hpb: -3000≤pd∧pd≤3000) (hk:k≤2000) (hT10:Tab10 w):
 Calls Tryz.prog 162 #[v,.int .i64 ((k:Int)+1),.int .i64 mode] w fun e w'=>e=.returned (.tuple #[.string (bsOf (sciD (sciQ (decide (D.1<0)) (dA D) (dB D) k pd mode) k)),.int .i64 (sciP (sciQ (decide (D.1<0)) (dA D) (dB D) k pd mode) k pd),.bool (sciC (dA D) (dB D) k pd)])∧Below w.heap.size w w':=by
 obtain ⟨am,cm,rfl,hN⟩:=hv
 obtain ⟨q,hq⟩: ∃q,q=sciQ (decide (D.1<0)) (dA D) (dB D) k pd mode:=⟨_,rfl⟩
 obtain ⟨q1,q2⟩:=sciQ_bd (decide (D.1<0)) (dA D) (dB D) k pd mode (dB_pos D) hp
 rw [←hq] at q1 q2 ⊢
 have lM:=limbs_short2 60 2 (by omega) _ hl
 obtain ⟨A,hA⟩: ∃A,A=dA D*tnN ((k:Int)-pd):=⟨_,rfl⟩
 obtain ⟨B,hB⟩: ∃B,B=dB D*tnN (-((k:Int)-pd)):=⟨_,rfl⟩
 have hB0:0<B:=by rw [hB];exact Nat.mul_pos (dB_pos D) (tnN_pos _)
 have hAb:(limbs A).length≤10000:=by
  obtain ⟨X,hX⟩: ∃X,X=D.2.toNat:=⟨_,rfl⟩
  obtain ⟨Y,hY⟩: ∃Y,Y=((k:Int)-pd).toNat:=⟨_,rfl⟩
  have h10:(10:Nat)^Y≤(2^4)^Y:=Nat.pow_le_pow_left (by decide) Y
  rw [←Nat.pow_mul] at h10
  refine limbs_short2 (60+X+(4*Y+1)) 10000 (by omega) A ?_
  rw [hA];unfold dA tnN
  rw [←hX,←hY,Nat.pow_add,Nat.pow_add]
  refine Nat.mul_lt_mul'' (Nat.mul_lt_mul_of_pos_right hl (Nat.two_pow_pos _)) ?_
  rw [Nat.pow_succ]
  have:=Nat.two_pow_pos (4*Y)
  omega
 have hBb:(limbs B).length≤10000:=by
  obtain ⟨X,hX⟩: ∃X,X=(-D.2).toNat:=⟨_,rfl⟩
  obtain ⟨Y,hY⟩: ∃Y,Y=(-((k:Int)-pd)).toNat:=⟨_,rfl⟩
  have h10:(10:Nat)^Y≤(2^4)^Y:=Nat.pow_le_pow_left (by decide) Y
  rw [←Nat.pow_mul] at h10
  refine limbs_short2 (X+1+(4*Y+1)) 10000 (by omega) B ?_
  rw [hB];unfold dB tnN
  rw [←hX,←hY,Nat.pow_add]
  refine Nat.mul_lt_mul'' (Nat.pow_lt_pow_right (by omega) (by omega)) ?_
  rw [Nat.pow_succ]
  have:=Nat.two_pow_pos (4*Y)
  omega
 have hqs:q=rtN (decide (D.1<0)) A B mode:=by rw [hq,hA,hB];rfl
 have hcs:sciC (dA D) (dB D) k pd=rtC A B:=by rw [hA,hB];rfl
 have hql:(limbs q).length≤30001:=by
  have h1:=(rtN_ge (decide (D.1<0)) A B mode).2
  have h2:=Nat.div_le_self A B
  have h3:q≤A+1:=by omega
  have h4:(limbs 1).length≤1:=(digs_len_le 4294967296 (by omega) 1 1).2 (by omega)
  have h5:=limbs_len_add A 1 10000 10000 hAb (by omega)
  exact Nat.le_trans (limbs_len_mono h3) (by omega)
 rw [hcs]
 have LG:=hid (show ∀w,Ns .u32 w am cm (limbs D.1.natAbs)→Calls Tryz.prog 161 #[.agg #[.bool (decide (D.1<0)),.slice am (limbs D.1.natAbs).length cm,.int .i64 D.2]] w fun e w'=>e=.returned (.int .i64 pd)∧Below w.heap.size w w' from fun w h=>log10_any _ D pd w ⟨am,cm,rfl,h⟩ hl he hp hpb)
 have SC:=hid (show ∀w,Ns .u32 w am cm (limbs D.1.natAbs)→Calls Tryz.prog 182 #[.agg #[.bool (decide (D.1<0)),.slice am (limbs D.1.natAbs).length cm,.int .i64 D.2],.int .i64 ((k:Int)-pd)] w (RetRat w (decide (D.1<0)) A B) from fun w h=>by
  rw [hA,hB]
  exact scaled_any _ D ((k:Int)-pd) w ⟨am,cm,rfl,h⟩ (by omega) (by omega) (by omega))
 have RO:=hid (fun g w h=>by
  have h9:=ratioRound_any g (decide (D.1<0)) A B mode w h (by omega) hB0 (by omega)
  rwa [←hqs] at h9)
 have DE:=hid (fun ao c w h t=>decimal_any ao c q w h (by omega) t)
 have hov:=sciD_over q k q1 q2
 have hdl:(decD q).length≤k+2:=decD_len_lt q (k+2) (Nat.lt_of_le_of_lt q2 (Nat.pow_lt_pow_right (by omega) (by omega))) (by omega)
 obtain ⟨l,hll⟩: ∃l,l=(decD q).length:=⟨_,rfl⟩
 have hsz:(bsOf (decD q)).size=l:=by rw [bs_size,hll]
 have HN:=hid hN
 have HT:=hid hT10
 have zQ:QL 67 (w.alloc (.cells #[.bool (decide (D.1<0)),.slice am (limbs D.1.natAbs).length cm,.int .i64 D.2] 67)) w.heap.size (decide (D.1<0)) (.slice am (limbs D.1.natAbs).length cm) D.2:=QL.made rfl
 have yb0:=below_alloc w (.cells #[.bool (decide (D.1<0)),.slice am (limbs D.1.natAbs).length cm,.int .i64 D.2] 67)
 have hlm:((limbs D.1.natAbs).length:Int)≠0:=by
  intro h
  have:=(limbs_nil D.1.natAbs).1 (List.length_eq_zero_iff.1 (by omega))
  omega
 have hlz:(((limbs D.1.natAbs).length:Int)==0)=false:=beq_eq_false_iff_ne.2 hlm
 have hw1:(k:Int)+1-1=(k:Int):=by omega
 have hw2:IntKind.i64.wrap ((k:Int)-pd)=(k:Int)-pd:=IntWalk.i64_in _ (by omega)
 have hw3:IntKind.i64.wrap (k:Int)=(k:Int):=IntWalk.i64_in _ (by omega)
 have hw4:IntKind.i64.wrap (pd+1)=pd+1:=IntWalk.i64_in _ (by omega)
 have HR1:=hid (show (k+1<l)→sciD q k=(decD q).take (k+1)∧sciP q k pd=pd+1 from fun h=>by
  have h2:10^(k+1)≤q:=by rw [←hov,←hll];exact h
  unfold sciD sciP
  rw [if_pos h2,if_pos h2,(sciD_take q k q1 q2 h2).1]
  exact ⟨rfl,rfl⟩)
 have HR2:=hid (show ¬(k+1<l)→sciD q k=decD q∧sciP q k pd=pd from fun h=>by
  have h2: ¬10^(k+1)≤q:=by rw [←hov,←hll];exact h
  unfold sciD sciP
  rw [if_neg h2,if_neg h2]
  exact ⟨rfl,rfl⟩)
 have hS:=fun h=>slice_to (P:=Tryz.prog) Tryz.underlying9 (decD q) ((k:Int)+1) (by omega) h
 rw [show ((k:Int)+1).toNat=k+1 by omega,←hll] at hS
 have hl2:l≤k+2:=by omega
 generalize sciD q k=RD at *
 generalize sciP q k pd=RP at *
 generalize decD q=T at *
 generalize rtC A B=CC at *
 clear hq hqs hcs hA hB hAb hBb hB0 hql q1 q2 hov hdl hN hT10 hp hD hl hll lM hlm
 go_enter Tryz.func162,Tryz.ntmps162
 go_upto_region 1 with fail
 refine wp_worldZ (fun WW=>Below w.heap.size w WW∧QL 67 WW w.heap.size (decide (D.1<0)) (.slice am (limbs D.1.natAbs).length cm) D.2∧Ns .u32 WW am cm (limbs D.1.natAbs)) ⟨yb0,zQ,HN.out.below yb0⟩ ?_
 intro W1 ⟨y1,z1,hN1⟩
 obtain ⟨g1,hg1⟩: ∃g,g=w.heap.size:=⟨_,rfl⟩
 rw [←hg1] at z1 ⊢
 have H1:=hid z1
 have HN1:=hid hN1
 obtain ⟨⟨j0,j1,-⟩,j2,-⟩:=id z1
 clear hg1 zQ yb0 HN hN1 z1
 generalize decide (D.1<0)=neg at *
 go_upto_if 37 with (first
  |(go_at_call 161;(with_reducible refine (LG.out _ HN1.out).mono ?_);rintro en w2 ⟨rfl,hb2⟩;obtain ⟨⟨i0,i1,-⟩,i2,-⟩:=H1.out.below hb2)
  |(go_at_call 182;(with_reducible refine (SC.out _ (HN1.out.below hb2)).mono ?_);rintro en w5 ⟨g5,rfl,hr5,hb5⟩)
  |(go_at_call 183;(with_reducible refine (RO.out _ _ hr5).mono ?_);rintro en w6 ⟨aq,cq,rfl,hNq,hb6⟩;have y6:=below_trans (below_trans (below_trans y1 hb2) hb5) hb6)
  |(go_at_call 166;(with_reducible refine (DE.out _ _ _ hNq (HT.out.below y6)).mono ?_);rintro en w8 ⟨rfl,hb8⟩))
 by_cases hkl:k+1<l
 ·obtain ⟨r1,r2⟩:=HR1.out hkl
  have hS2:=hS (by omega)
  have hkl2:(k:Int)+1<(l:Int):=by omega
  have R1:=hid r1
  have R2:=hid r2
  clear HR1 HR2 hS r1 r2
  go_wp2_with fail
  go_ret3
  exact ⟨by rw [R1.out,R2.out];rfl,below_trans y6 hb8⟩
 ·obtain ⟨r1,r2⟩:=HR2.out hkl
  have hkl2: ¬(k:Int)+1<(l:Int):=by omega
  have R1:=hid r1
  have R2:=hid r2
  clear HR1 HR2 hS r1 r2
  go_wp2_with fail
  go_ret3
  exact ⟨by rw [R1.out,R2.out];rfl,below_trans y6 hb8⟩
theorem power_any (p:Int) (hp: -1000000≤p∧p≤1000000) (w:World) (hT10:Tab10 w):
 Calls Tryz.prog 91 #[.int .i64 p] w fun e w'=>e=.returned (.string (bsOf (pwrT p)))∧Below w.heap.size w w':=by
 obtain ⟨n,hn⟩: ∃n,n=p.natAbs:=⟨_,rfl⟩
 have HP:=hid (show pwrT p=(if p<0 then 45 else 43)::((if n<10 then [48] else [])++decD n) by unfold pwrT;rw [←hn])
 have IT:=hid (show ∀w,Tab10 w→Calls Tryz.prog 168 #[.int .i64 (n:Int)] w fun e w'=>e=.returned (.string (bsOf (decD n)))∧Below w.heap.size w w' from fun w t=>by
  have h9:=itoa_any (n:Int) (by omega) (by omega) w t
  rwa [itoa_nat] at h9)
 have lD:(decD n).length≤8:=decD_len 7 n (by omega)
 have HT:=hid hT10
 generalize decD n=T at *
 have a1:=add_bs (P:=Tryz.prog) [43] [48] (by simp)
 have a2:=add_bs (P:=Tryz.prog) [45] [48] (by simp)
 have a3:=add_bs (P:=Tryz.prog) [43] T (by simp;omega)
 have a4:=add_bs (P:=Tryz.prog) [45] T (by simp;omega)
 have a5:=add_bs (P:=Tryz.prog) [43,48] T (by simp;omega)
 have a6:=add_bs (P:=Tryz.prog) [45,48] T (by simp;omega)
 have b1:(ByteArray.mk #[43])=bsOf [43]:=rfl
 have b2:(ByteArray.mk #[45])=bsOf [45]:=rfl
 have b3:(ByteArray.mk #[48])=bsOf [48]:=rfl
 simp only [List.cons_append,List.nil_append] at a1 a2 a3 a4 a5 a6
 clear hT10
 by_cases h0:p<0
 ·have hpn: -p=(n:Int):=by omega
  have hwn:IntKind.i64.wrap (n:Int)=(n:Int):=IntWalk.i64_in _ (by omega)
  by_cases h1:n<10
  ·have HR:=hid (show pwrT p=45::48::T by rw [HP.out,if_pos h0,if_pos h1];rfl)
   have h2:(n:Int)<10:=by omega
   clear HP hn
   go_enter Tryz.func91,Tryz.ntmps91
   go_wp2_with (go_at_call 168;(with_reducible refine (IT.out _ HT.out).mono ?_);rintro en w1 ⟨rfl,hb1⟩)
   go_ret
   exact ⟨by rw [HR.out];rfl,hb1⟩
  ·have HR:=hid (show pwrT p=45::T by rw [HP.out,if_pos h0,if_neg h1];rfl)
   have h2: ¬(n:Int)<10:=by omega
   clear HP hn
   go_enter Tryz.func91,Tryz.ntmps91
   go_wp2_with (go_at_call 168;(with_reducible refine (IT.out _ HT.out).mono ?_);rintro en w1 ⟨rfl,hb1⟩)
   go_ret
   exact ⟨by rw [HR.out];rfl,hb1⟩
 ·obtain ⟨m,rfl⟩:=Int.eq_ofNat_of_zero_le (show 0≤p by omega)
  rw [Int.natAbs_natCast] at hn
  subst hn
  by_cases h1:n<10
  ·have HR:=hid (show pwrT (n:Int)=43::48::T by rw [HP.out,if_neg h0,if_pos h1];rfl)
   have h2:(n:Int)<10:=by omega
   clear HP
   go_enter Tryz.func91,Tryz.ntmps91
   go_wp2_with (go_at_call 168;(with_reducible refine (IT.out _ HT.out).mono ?_);rintro en w1 ⟨rfl,hb1⟩)
   go_ret
   exact ⟨by rw [HR.out];rfl,hb1⟩
  ·have HR:=hid (show pwrT (n:Int)=43::T by rw [HP.out,if_neg h0,if_neg h1];rfl)
   have h2: ¬(n:Int)<10:=by omega
   clear HP
   go_enter Tryz.func91,Tryz.ntmps91
   go_wp2_with (go_at_call 168;(with_reducible refine (IT.out _ HT.out).mono ?_);rintro en w1 ⟨rfl,hb1⟩)
   go_ret
   exact ⟨by rw [HR.out];rfl,hb1⟩
end Go.Proofs.YtfphmlmgjhebjaaGreatDoor
namespace Go.Ulp
open Go.RowKit
def fxN (x:Int) (p:Nat) (mode:Int):Nat:=rtN (negB x) (dA (fv x)*tnN (p:Int)) (dB (fv x)*tnN (-(p:Int))) mode
def fxC (x:Int) (p:Nat):Bool:=rtC (dA (fv x)*tnN (p:Int)) (dB (fv x)*tnN (-(p:Int)))
def fxT (x:Int) (p:Nat) (mode:Int):List UInt8:=dsh (negB x) (ptd (decD (fxN x p mode)) p)
theorem rtN_zero (neg:Bool) (b:Nat) (mode:Int):rtN neg 0 b mode=0:=by unfold rtN;simp
theorem rtN_sign (D:Dy) (neg:Bool) (h:0<D.1.natAbs→decide (D.1<0)=neg) (t:Int) (b:Nat) (mode:Int):rtN (decide (D.1<0)) (dA D*tnN t) b mode=rtN neg (dA D*tnN t) b mode:=by
 rcases Nat.eq_zero_or_pos D.1.natAbs with h0|h0
 ·have:dA D=0:=by unfold dA;rw [h0,Nat.zero_mul]
  rw [this,Nat.zero_mul,rtN_zero,rtN_zero]
 ·rw [h h0]
theorem fv_sign2 (x:Int) (h:0<(fv x).1.natAbs):decide ((fv x).1<0)=negB x:=by
 have h1:(fv x).1≠0:=by omega
 unfold fv at h1 ⊢
 have h2:sg (negB x) (mantOf x)≠0:=fun h=>h1 ((nrm_zero_iff _ _).2 h)
 obtain ⟨k,h3,-⟩:=nrm_rep (sg (negB x) (mantOf x)) (dexp x)
 have hp:=pw_pos k
 generalize (nrm (sg (negB x) (mantOf x)) (dexp x)).1=y at *
 have hm:0≤mantOf x:=by
  have:=(show 0≤fracOf x by unfold fracOf;omega)
  unfold mantOf;split<;>omega
 cases hn:negB x
 ·rw [hn] at h3 h2
  have h4:0<y*pw k:=by rw [←h3];unfold sg at h2 ⊢;simp at h2 ⊢;omega
  refine decide_eq_false ?_
  intro h5
  have:=Int.mul_neg_of_neg_of_pos h5 hp
  omega
 ·rw [hn] at h3 h2
  have h4:y*pw k<0:=by rw [←h3];unfold sg at h2 ⊢;simp at h2 ⊢;omega
  refine decide_eq_true ?_
  rcases Int.lt_or_le y 0 with h5|h5
  ·exact h5
  ·have:=Int.mul_nonneg h5 (Int.le_of_lt hp)
   omega
def scQ (x:Int) (k:Nat) (pd mode:Int):Nat:=sciQ (negB x) (dA (fv x)) (dB (fv x)) k pd mode
def scS (x:Int) (k:Nat) (pd mode:Int):List UInt8:=if (fv x).1=0 then List.replicate (k+1) 48 else sciD (scQ x k pd mode) k
def scP (x:Int) (k:Nat) (pd mode:Int):Int:=if (fv x).1=0 then 0 else sciP (scQ x k pd mode) k pd
def scC (x:Int) (k:Nat) (pd:Int):Bool:=if (fv x).1=0 then false else sciC (dA (fv x)) (dB (fv x)) k pd
def scT (x:Int) (k:Nat) (pd mode:Int):List UInt8:=dsh (negB x) (ptd (scS x k pd mode) k++101::pwrT (scP x k pd mode))
end Go.Ulp
namespace Go.Proofs.YtfphmlmgjhebjaaGreatDoor
open Go.RowKit Go.Ulp
set_option maxHeartbeats 2000000
set_option maxRecDepth 100000
theorem knownT_any (mode:Int) (w:World):Calls Tryz.prog 78 #[.int .i64 mode] w fun e w'=>e=.returned (.bool (decide (0≤mode∧mode≤4)))∧w=w':=by
 obtain ⟨K,hK⟩: ∃K,K=decide (0≤mode∧mode≤4):=⟨_,rfl⟩
 rw [←hK]
 by_cases h:0≤mode
 ·have HC:=hid (show decide (mode≤4)=K by rw [hK,decide_eq_decide];omega)
  clear hK
  go_enter Tryz.func78,Tryz.ntmps78
  go_wp2_with fail
  go_ret
  exact ⟨ret_bool HC.out,rfl⟩
 ·have HC:=hid (show false=K by rw [hK,eq_comm];exact decide_eq_false (by omega))
  clear hK
  go_enter Tryz.func78,Tryz.ntmps78
  go_wp2_with fail
  go_ret
  exact ⟨ret_bool HC.out,rfl⟩
theorem fixedP_ok (x mode:Int) (p:Nat) (h0:0≤x) (h1:x<18446744073709551616) (hv:hasVal x=true) (m0:0≤mode) (m1:mode≤4) (hp:p≤1100) (w:World) (hT:Tab 1 w) (hT10:Tab10 w):
 Calls Tryz.prog 124 #[.int .u64 x,.int .i64 (p:Int),.int .i64 mode] w fun e w'=>e=.returned (.tuple #[.string (bsOf (fxT x p mode)),.bool (fxC x p),.int .i64 0])∧Below w.heap.size w w':=by
 have FS:=fv_sign2 x
 obtain ⟨d1,d2,d3⟩:=fv_small x h0 h1
 obtain ⟨-,d4,-⟩:=fv_bd x h0 h1
 have hFX:fxT x p mode=dsh (negB x) (ptd (decD (fxN x p mode)) p):=rfl
 have hFN:fxN x p mode=rtN (decide ((fv x).1<0)) (dA (fv x)*tnN (p:Int)) (dB (fv x)*tnN (-(p:Int))) mode:=(rtN_sign _ _ FS _ _ _).symm
 have hFC:fxC x p=rtC (dA (fv x)*tnN (p:Int)) (dB (fv x)*tnN (-(p:Int))):=rfl
 obtain ⟨E,hE⟩: ∃E,E=5500:=⟨_,rfl⟩
 obtain ⟨s1,s2⟩:=scaled_bits (fv x) (p:Int) 1100 d4 d3 d2 (by omega) E (by omega)
 have SCe:=hid (fun v w h=>scaled_any v (fv x) (p:Int) w h (by omega) (by omega) (by omega))
 have VA:=hid (fun w t=>value_any x h0 h1 w t)
 generalize fv x=D at *
 obtain ⟨A,hA⟩: ∃A,A=dA D*tnN (p:Int):=⟨_,rfl⟩
 obtain ⟨B,hB⟩: ∃B,B=dB D*tnN (-(p:Int)):=⟨_,rfl⟩
 have hB0:0<B:=by rw [hB];exact Nat.mul_pos (dB_pos D) (tnN_pos _)
 rw [←hA,←hB] at hFN hFC SCe
 rw [←hA] at s1
 rw [←hB] at s2
 obtain ⟨N,hN⟩: ∃N,N=fxN x p mode:=⟨_,rfl⟩
 rw [←hN] at hFN hFX
 have hNA:N≤A+1:=by
  have h1:=(rtN_ge (decide (D.1<0)) A B mode).2
  have h2:=Nat.div_le_self A B
  omega
 have hNE:N<2^(E+1):=by rw [Nat.pow_succ];have:=Nat.two_pow_pos E;omega
 have lA:=limbs_short2 E 200 (by omega) A s1
 have lB:=limbs_short2 E 200 (by omega) B s2
 have lN:=limbs_short2 (E+1) 200 (by omega) N hNE
 have lD:(decD N).length≤10000:=Nat.le_trans (decD_bits N (E+1) hNE (by omega)) (by omega)
 have RO:=hid (fun g w h=>by
  have h9:=ratioRound_any g (decide (D.1<0)) A B mode w h (by omega) hB0 (by omega)
  rwa [←hFN,←hFC] at h9)
 have DE:=hid (fun ao c w h t=>decimal_any ao c N w h (by omega) t)
 have PT:=hid (fun w=>point_any (decD N) p w (by omega) (by omega))
 have SG:=hid (fun w=>signT_any x h0 h1 w)
 have HV:=hid (show ∀w,Calls Tryz.prog 47 #[.int .u64 x] w fun e w'=>e=.returned (.bool true)∧w=w' from fun w=>by
  have h9:=hasValue_any x h0 h1 w
  rwa [hv] at h9)
 have KN:=hid (show ∀w,Calls Tryz.prog 78 #[.int .i64 mode] w fun e w'=>e=.returned (.bool true)∧w=w' from fun w=>by
  have h9:=knownT_any mode w
  rwa [decide_eq_true (show 0≤mode∧mode≤4 from ⟨m0,m1⟩)] at h9)
 have hlp:=ptd_len (decD N) p
 have hAD:=add_bs (P:=Tryz.prog) (if negB x=true then [45] else []) (ptd (decD N) p) (by split<;>simp<;>omega)
 rw [dsh_app,←hFX] at hAD
 have HT:=hid hT
 have HT10:=hid hT10
 have hp1: ¬(p:Int)<0:=by omega
 have hp2: ¬1100<(p:Int):=by omega
 generalize fxT x p mode=T at *
 generalize fxC x p=C at *
 generalize ptd (decD N) p=T2 at *
 generalize (if negB x=true then [45] else [])=T1 at *
 generalize decD N=T3 at *
 clear hN hA hB hFX hFN hFC hNA hNE s1 s2 lA lB lN d1 d4 hB0 hT hT10 hv hlp lD hE E FS
 go_enter Tryz.func124,Tryz.ntmps124
 go_wp2_with (first
  |(go_at_call 47;(with_reducible refine (HV.out _).mono ?_);rintro en w1 ⟨rfl,rfl⟩)
  |(go_at_call 78;(with_reducible refine (KN.out _).mono ?_);rintro en w1 ⟨rfl,rfl⟩)
  |(go_at_call 96;(with_reducible refine (VA.out _ HT.out).mono ?_);rintro en w2 ⟨v,rfl,hv2,hb2⟩)
  |(go_at_call 182;(with_reducible refine (SCe.out _ _ hv2).mono ?_);rintro en w5 ⟨g5,rfl,hr5,hb5⟩)
  |(go_at_call 183;(with_reducible refine (RO.out _ _ hr5).mono ?_);rintro en w6 ⟨aq,cq,rfl,hNq,hb6⟩;have y6:=below_trans (below_trans hb2 hb5) hb6)
  |(go_at_call 184;(with_reducible refine (SG.out _).mono ?_);rintro en w7 ⟨rfl,rfl⟩)
  |(go_at_call 166;(with_reducible refine (DE.out _ _ _ hNq (HT10.out.below y6)).mono ?_);rintro en w8 ⟨rfl,hb8⟩)
  |(go_at_call 185;(with_reducible refine (PT.out _).mono ?_);rintro en w9 ⟨rfl,hb9⟩))
 all_goals go_ret3
 all_goals exact ⟨rfl,below_trans (below_trans y6 hb8) hb9⟩
theorem digitsX_any (x:Int) (h0:0≤x) (h1:x<18446744073709551616) (v:Value) (k:Nat) (mode pd:Int) (w:World) (hv:VD w (fv x) v) (hp:(fv x).1≠0→IsDec (dA (fv x)) (dB (fv x)) pd) (hpb: -3000≤pd∧pd≤3000) (hk:k≤2000) (hT10:Tab10 w):
 Calls Tryz.prog 162 #[v,.int .i64 ((k:Int)+1),.int .i64 mode] w fun e w'=>e=.returned (.tuple #[.string (bsOf (scS x k pd mode)),.int .i64 (scP x k pd mode),.bool (scC x k pd)])∧Below w.heap.size w w':=by
 obtain ⟨d1,d2,d3⟩:=fv_small x h0 h1
 obtain ⟨-,d4,-⟩:=fv_bd x h0 h1
 by_cases hz:(fv x).1=0
 ·unfold scS scP scC
  rw [if_pos hz,if_pos hz,if_pos hz]
  exact digitsZ_any v (fv x) (k+1) mode w hv hz (by omega)
 ·unfold scS scP scC scQ
  rw [if_neg hz,if_neg hz,if_neg hz,←fv_sign2 x (by omega)]
  have d5:(fv x).1.natAbs<2^60:=Nat.lt_of_lt_of_le d4 (Nat.pow_le_pow_right (by omega) (by omega))
  exact digits10_any v (fv x) k mode pd w hv hz d5 ⟨by omega,by omega⟩ (hp hz) hpb hk hT10
theorem sciP_ok (x mode pd:Int) (k:Nat) (h0:0≤x) (h1:x<18446744073709551616) (hv:hasVal x=true) (m0:0≤mode) (m1:mode≤4) (hk:k<800) (hp:(fv x).1≠0→IsDec (dA (fv x)) (dB (fv x)) pd) (hpb: -3000≤pd∧pd≤3000) (w:World) (hT:Tab 1 w) (hT10:Tab10 w):
 Calls Tryz.prog 125 #[.int .u64 x,.int .i64 ((k:Int)+1),.int .i64 mode] w fun e w'=>e=.returned (.tuple #[.string (bsOf (scT x k pd mode)),.bool (scC x k pd),.int .i64 0])∧Below w.heap.size w w':=by
 have hSC:scT x k pd mode=dsh (negB x) (ptd (scS x k pd mode) k++101::pwrT (scP x k pd mode)):=rfl
 have DX:=hid (fun v w h t=>digitsX_any x h0 h1 v k mode pd w h hp hpb (by omega) t)
 have VA:=hid (fun w t=>value_any x h0 h1 w t)
 have hSl:(scS x k pd mode).length≤k+1:=by
  unfold scS
  split
  ·rw [List.length_replicate];omega
  ·rename_i hz
   obtain ⟨q1,q2⟩:=sciQ_bd (negB x) (dA (fv x)) (dB (fv x)) k pd mode (dB_pos _) (hp hz)
   exact Nat.le_of_eq (sciD_len _ _ q1 q2)
 have hPb: -3001≤scP x k pd mode∧scP x k pd mode≤3001:=by
  unfold scP sciP
  split
  ·omega
  ·split<;>omega
 obtain ⟨P,hP⟩: ∃P,P=scP x k pd mode:=⟨_,rfl⟩
 rw [←hP] at hSC hPb DX
 have hpl:(pwrT P).length≤10:=by
  unfold pwrT
  have:=decD_len 3 P.natAbs (by omega)
  rw [List.length_cons,List.length_append]
  split<;>simp<;>omega
 have PW:=hid (fun w t=>power_any P (by omega) w t)
 have PT:=hid (fun w=>point_any (scS x k pd mode) k w (by omega) (by omega))
 have hlp:=ptd_len (scS x k pd mode) k
 have SG:=hid (fun w=>signT_any x h0 h1 w)
 have HV:=hid (show ∀w,Calls Tryz.prog 47 #[.int .u64 x] w fun e w'=>e=.returned (.bool true)∧w=w' from fun w=>by
  have h9:=hasValue_any x h0 h1 w
  rwa [hv] at h9)
 have KN:=hid (show ∀w,Calls Tryz.prog 78 #[.int .i64 mode] w fun e w'=>e=.returned (.bool true)∧w=w' from fun w=>by
  have h9:=knownT_any mode w
  rwa [decide_eq_true (show 0≤mode∧mode≤4 from ⟨m0,m1⟩)] at h9)
 have hA1:=add_bs (P:=Tryz.prog) (if negB x=true then [45] else []) (ptd (scS x k pd mode) k) (by split<;>simp<;>omega)
 have hA2:=add_bs (P:=Tryz.prog) (dsh (negB x) (ptd (scS x k pd mode) k)) [101] (by unfold dsh;split<;>simp<;>omega)
 have hA3:=add_bs (P:=Tryz.prog) (dsh (negB x) (ptd (scS x k pd mode) k)++ [101]) (pwrT P) (by unfold dsh;split<;>simp<;>omega)
 rw [dsh_app] at hA1
 have hFIN:dsh (negB x) (ptd (scS x k pd mode) k)++ [101]++pwrT P=scT x k pd mode:=by
  rw [hSC];unfold dsh;split<;>simp
 rw [hFIN] at hA3
 have hb101:(ByteArray.mk #[101])=bsOf [101]:=rfl
 have HT:=hid hT
 have HT10:=hid hT10
 have hk1: ¬(k:Int)+1<1:=by omega
 have hk2: ¬800<(k:Int)+1:=by omega
 have hwk:(k:Int)+1-1=(k:Int):=by omega
 have hwk2:IntKind.i64.wrap (k:Int)=(k:Int):=IntWalk.i64_in _ (by omega)
 have y0:=Below.refl w.heap.size w
 generalize dsh (negB x) (ptd (scS x k pd mode) k)++ [101]=T5 at *
 generalize dsh (negB x) (ptd (scS x k pd mode) k)=T4 at *
 generalize ptd (scS x k pd mode) k=T3 at *
 generalize scT x k pd mode=T at *
 generalize scS x k pd mode=S at *
 generalize scC x k pd=C at *
 generalize (if negB x=true then [45] else [])=T1 at *
 generalize pwrT P=T2 at *
 clear hSC hSl hPb hP hpl hlp hFIN hT hT10 hv hp hpb
 go_enter Tryz.func125,Tryz.ntmps125
 go_wp2_with (first
  |(go_at_call 47;(with_reducible refine (HV.out _).mono ?_);rintro en w1 ⟨rfl,rfl⟩)
  |(go_at_call 78;(with_reducible refine (KN.out _).mono ?_);rintro en w1 ⟨rfl,rfl⟩)
  |(go_at_call 96;(with_reducible refine (VA.out _ HT.out).mono ?_);rintro en w2 ⟨v,rfl,hv2,hb2⟩)
  |(go_at_call 162;(with_reducible refine (DX.out _ _ hv2 (HT10.out.below hb2)).mono ?_);rintro en w5 ⟨rfl,hb5⟩;have y5:=below_trans hb2 hb5)
  |(go_at_call 184;(with_reducible refine (SG.out _).mono ?_);rintro en w7 ⟨rfl,rfl⟩)
  |(go_at_call 185;(with_reducible refine (PT.out _).mono ?_);rintro en w9 ⟨rfl,hb9⟩;have y9:=below_trans y5 hb9)
  |(go_at_call 91;(with_reducible refine (PW.out _ (HT10.out.below y9)).mono ?_);rintro en w8 ⟨rfl,hb8⟩))
 all_goals go_ret3
 all_goals exact ⟨rfl,below_trans y9 hb8⟩
end Go.Proofs.YtfphmlmgjhebjaaGreatDoor
