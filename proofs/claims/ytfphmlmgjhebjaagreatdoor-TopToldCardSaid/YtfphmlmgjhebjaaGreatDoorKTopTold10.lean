/- TopTold: what the proof leans on, part 10 (Tx4 Zt Tx1 Qm Rm Zv RegM Tx5 Tx6 Qt1). -/
import Derived.Deep.DeepCutAuto
import Derived.Deep.CutBlock
import Derived.BigRegion
import Derived.Deep.RegionHeld3
import Derived.Laws.Concat
import Derived.Test.YtfphmlmgjhebjaaGreatDoorKTopTold1
import Derived.Test.YtfphmlmgjhebjaaGreatDoorKTopTold4
import Derived.Test.YtfphmlmgjhebjaaGreatDoorKTopTold5
import Derived.Test.YtfphmlmgjhebjaaGreatDoorKTopTold6
import Derived.Test.YtfphmlmgjhebjaaGreatDoorKTopTold7
import Derived.Test.YtfphmlmgjhebjaaGreatDoorKTopTold8
import Derived.Test.YtfphmlmgjhebjaaGreatDoorKTopTold9
set_option linter.unusedVariables false
set_option linter.unusedSimpArgs false
namespace Go.Ulp
open Go.RowKit
theorem limbs_short2 (A n:Nat) (hn:A≤32*n) (M:Nat) (h:M<2^A):(limbs M).length≤n:=
 (limbs_le_bits M n).2 (Nat.lt_of_lt_of_le h (Nat.pow_le_pow_right (by omega) hn))
theorem limbs_ten (s:Nat) (h:s≤24002):(limbs (10^s)).length≤3002:=by
 refine limbs_short2 (4*s+1) 3002 (by omega) _ ?_
 rw [Nat.pow_succ,Nat.pow_mul]
 have h1:(10:Nat)^s≤(2^4)^s:=Nat.pow_le_pow_left (by decide) s
 have h2:0<(10:Nat)^s:=Nat.pow_pos (by omega)
 omega
def RtAt (w:World) (g:Nat) (neg:Bool) (a b:Nat):Prop:= ∃an cn bn dn,w.cell? ⟨g,0,none⟩=some (.bool neg)∧w.cell? ⟨g,3,none⟩=some (.slice an (limbs a).length cn)∧w.cell? ⟨g,4,none⟩=some (.slice bn (limbs b).length dn)∧Ns .u32 w an cn (limbs a)∧Ns .u32 w bn dn (limbs b)
theorem RtAt.below {w w':World} {g:Nat} {neg:Bool} {a b:Nat} (h:RtAt w g neg a b) (hb:Below w.heap.size w w'):RtAt w' g neg a b:=by
 obtain ⟨an,cn,bn,dn,h1,h2,h3,h4,h5⟩:=h
 exact ⟨an,cn,bn,dn,(hb.cell (World.block_lt_of_cell? _ _ h1)).trans h1,(hb.cell (World.block_lt_of_cell? _ _ h2)).trans h2,(hb.cell (World.block_lt_of_cell? _ _ h3)).trans h3,h4.below hb,h5.below hb⟩
def Fact.nn2 (q r:Nat):Fact:=⟨fun v w=> ∃a c b d,v=.tuple #[.slice a (limbs q).length c,.slice b (limbs r).length d]∧Ns .u32 w a c (limbs q)∧Ns .u32 w b d (limbs r),fun _ _ _ h hb=>by
 obtain ⟨a,c,b,d,h1,h2,h3⟩:=h;exact ⟨a,c,b,d,h1,h2.below hb,h3.below hb⟩⟩
def RetNB (w:World) (n:Nat) (c:Bool) (e:Ending) (w':World):Prop:=
 ∃ao cap,e=.returned (.tuple #[.slice ao (limbs n).length cap,.bool c])∧Ns .u32 w' ao cap (limbs n)∧Below w.heap.size w w'
end Go.Ulp
namespace Go.Proofs.YtfphmlmgjhebjaaGreatDoor
open Go.RowKit Go.Ulp
set_option maxHeartbeats 1000000
set_option maxRecDepth 100000
theorem pow10_any (n:Nat) (hn:n≤12000) (w:World):Calls Tryz.prog 159 #[.int .u64 10,.int .i64 (n:Int)] w (RetNc w (10^n)):=by
 have O1:=hid (show ∀w,Calls Tryz.prog 95 #[.int .u64 1] w fun e w'=>RetN w 1 e w' from fun w=>natOf_any 1 (by omega) w)
 have O10:=hid (show ∀w,Calls Tryz.prog 95 #[.int .u64 10] w fun e w'=>RetN w 10 e w' from fun w=>natOf_any 10 (by omega) w)
 go_enter Tryz.func159,Tryz.ntmps159
 go_wp2_with (go_at_call 95;(first
  |((with_reducible refine (O1.out _).mono ?_);rintro en w1 ⟨a1,rfl,hN1,hb1⟩)
  |((with_reducible refine (O10.out _).mono ?_);rintro en w2 ⟨a2,rfl,hN2,hb2⟩)))
 go_loopw [1,5,6] (fun s1 s5 s6 wr=> ∃(k s t:Nat) (b5:Option Addr) (c5:Nat) (b6:Option Addr) (c6:Nat),s1=.int .i64 (k:Int)∧s5=.slice b5 (limbs (10^s)).length c5∧s6=.slice b6 (limbs (10^t)).length c6∧Ns .u32 wr b5 c5 (limbs (10^s))∧Ns .u32 wr b6 c6 (limbs (10^t))∧s+t*k=n∧t≤2*n+1∧k≤n∧Below w.heap.size w wr) (fun s1 _ _ _=>(intOf s1).toNat)
 case atStart=>exact ⟨n,0,1,a1,_,a2,_,rfl,rfl,rfl,hN1.below hb2,hN2,by omega,by omega,by omega,below_trans hb1 hb2⟩
 case round=>
  obtain ⟨k,s,t,b5,c5,b6,c6,rfl,rfl,rfl,h5,h6,hst,ht,hkn,hb⟩:=hrel
  by_cases hk:0<k
  ·have htn:t≤n:=by have:=Nat.le_mul_of_pos_right t hk;omega
   have ls:=limbs_ten s (by omega)
   have lt:=limbs_ten t (by omega)
   have TI:=hid (show ∀w,Ns .u32 w b5 c5 (limbs (10^s))→Ns .u32 w b6 c6 (limbs (10^t))→Calls Tryz.prog 157 #[.slice b5 (limbs (10^s)).length c5,.slice b6 (limbs (10^t)).length c6] w fun e w'=>RetN w (10^(s+t)) e w' from fun w h0 h1=>by
    rw [Nat.pow_add]
    exact times_any b5 b6 c5 c6 (10^s) (10^t) w h0 h1 (by omega) (by omega))
   have TX:=hid (show ∀w,Ns .u32 w b6 c6 (limbs (10^t))→Calls Tryz.prog 157 #[.slice b6 (limbs (10^t)).length c6,.slice b6 (limbs (10^t)).length c6] w fun e w'=>RetN w (10^(t+t)) e w' from fun w h0=>by
    rw [Nat.pow_add]
    exact times_any b6 b6 c6 c6 (10^t) (10^t) w h0 h0 (by omega) (by omega))
   have H5:=hid h5
   have H6:=hid h6
   have HS:=hid (show (t+t)*(k/2)=t*(2*(k/2)) by rw [←Nat.two_mul,Nat.mul_comm 2 t,Nat.mul_assoc])
   have HO:=hid (show k%2=1→s+t+(t+t)*(k/2)=n from fun h=>by
    have h3:t*k=t*(2*(k/2))+t:=by
     have h4:t*k=t*(2*(k/2)+1):=congrArg (t * ·) (by omega)
     rw [h4];exact Nat.mul_succ _ _
    have:=HS.out
    omega)
   have HE:=hid (show ¬k%2=1→s+(t+t)*(k/2)=n from fun h=>by
    have h4:t*k=t*(2*(k/2)):=congrArg (t * ·) (by omega)
    have:=HS.out
    omega)
   clear ls lt h5 h6 hst
   by_cases ho:k%2=1
   ·have ho2:(k:Int)%2=1:=by omega
    go_wp2_with (go_at_call 157;(first
     |((with_reducible refine (TI.out _ H5.out H6.out).mono ?_);rintro en w3 ⟨a3,rfl,hN3,hb3⟩)
     |((with_reducible refine (TX.out _ (H6.out.below hb3)).mono ?_);rintro en w4 ⟨a4,rfl,hN4,hb4⟩)))
    go_roundw
    case rel=>exact ⟨k/2,s+t,t+t,a3,_,a4,_,by go_num,rfl,rfl,hN3.below hb4,hN4,HO.out ho,by omega,by omega,below_trans (below_trans hb hb3) hb4⟩
    case measure=>simp [intOf];omega
   ·have ho2:(k:Int)%2=0:=by omega
    clear TI
    go_wp2_with (go_at_call 157;(with_reducible refine (TX.out _ H6.out).mono ?_);rintro en w4 ⟨a4,rfl,hN4,hb4⟩)
    go_roundw
    case rel=>exact ⟨k/2,s,t+t,b5,_,a4,_,by go_num,rfl,rfl,H5.out.below hb4,hN4,HE.out ho,by omega,by omega,below_trans hb hb4⟩
    case measure=>simp [intOf];omega
  ·have hk0:k=0:=by omega
   subst hk0
   have e:s=n:=by omega
   subst e
   have H5:=hid h5
   clear h5 h6 hst
   go_wp2_with fail
   go_ret
   exact ⟨b5,c5,rfl,H5.out,hb⟩
theorem ratioRound_any (g:Nat) (neg:Bool) (a b:Nat) (mode:Int) (w:World) (h:RtAt w g neg a b) (ha:(limbs a).length≤1000000) (hb:0<b) (hb2:(limbs b).length≤1000000):
 Calls Tryz.prog 183 #[.pointer (some ⟨g,0,none⟩),.int .i64 mode] w (RetNB w (rtN neg a b mode) (rtC a b)):=by
 obtain ⟨an,cn,bn,dn,k0,k3,k4,hN0,hN1⟩:=h
 obtain ⟨q,hq⟩: ∃q,q=a/b:=⟨_,rfl⟩
 obtain ⟨r,hr⟩: ∃r,r=a%b:=⟨_,rfl⟩
 have OV:=hid (fun w h0 h1=>over_any an bn cn dn a b w h0 h1 ha hb)
 have hql:(limbs q).length≤(limbs a).length:=limbs_len_mono (by rw [hq];exact Nat.div_le_self _ _)
 have hrl:(limbs r).length≤(limbs b).length:=limbs_len_mono (by rw [hr];exact Nat.le_of_lt (Nat.mod_lt _ hb))
 obtain ⟨half,hhalf⟩: ∃x,x=cmpI ((2*r:Nat):Int) (b:Int):=⟨_,rfl⟩
 obtain ⟨up,hup⟩: ∃x,x=upN neg (decide (q%2=1)) half mode:=⟨_,rfl⟩
 have HN:rtN neg a b mode=if r≠0∧up=true then q+1 else q:=by unfold rtN;rw [←hq,←hr,←hhalf,←hup]
 have HC:rtC a b=decide (r≠0):=by unfold rtC;rw [←hr]
 rw [HN,HC]
 rw [←hq,←hr] at OV
 obtain ⟨NN,hNN⟩: ∃N,N=if r≠0∧up=true then q+1 else q:=⟨_,rfl⟩
 obtain ⟨CC,hCC⟩: ∃C,C=decide (r≠0):=⟨_,rfl⟩
 rw [←hNN,←hCC]
 have HNN:=hid hNN
 have HCC:=hid hCC
 clear hNN hCC
 have LE:=hid (show ∀a c w,Ns .u32 w a c (limbs r)→Calls Tryz.prog 172 #[.slice a (limbs r).length c,.int .i64 1] w fun e w'=>RetN w (2*r) e w' from fun a c w k=>by
  have h9:=leftN_any a c r 1 w k (by omega) (by omega)
  rw [Nat.pow_one,Nat.mul_comm] at h9
  exact h9)
 have CM:=hid (show ∀x c w,Ns .u32 w x c (limbs (2*r))→Ns .u32 w bn dn (limbs b)→Calls Tryz.prog 210 #[.slice x (limbs (2*r)).length c,.slice bn (limbs b).length dn] w fun e w'=>e=.returned (.int .i64 half)∧Below w.heap.size w w' from fun x c w k0 k1=>by
  have h9:=compare_any x bn c dn (2*r) b w k0 k1
  rw [←hhalf] at h9
  exact h9.mono fun e w' ⟨h1,nq,h2⟩=>⟨h1,by rw [h2];exact below_drewN (Below.refl _ _) nq⟩)
 have PL:=hid (show ∀a b c d w,Ns .u32 w a c (limbs q)→Ns .u32 w b d (limbs 1)→Calls Tryz.prog 163 #[.slice a (limbs q).length c,.slice b (limbs 1).length d] w fun e w'=>RetN w (q+1) e w' from fun a b c d w k0 k1=>plus_any a b c d q 1 w k0 k1 (by omega) (by
  have:(limbs 1).length≤1:=(digs_len_le 4294967296 (by omega) 1 1).2 (by omega)
  omega))
 have OF:=hid (show ∀w,Calls Tryz.prog 95 #[.int .u64 1] w fun e w'=>RetN w 1 e w' from fun w=>natOf_any 1 (by omega) w)
 have UP:=hid (fun od w (h:od=decide (q%2=1))=>show Calls Tryz.prog 214 #[.bool neg,.bool od,.int .i64 half,.int .i64 mode] w fun e w'=>e=.returned (.bool up)∧w=w' from by subst h;rw [hup];exact up_any _ _ _ _ w)
 have N0:=hid hN0
 have N1:=hid hN1
 have hcn:=hN0.1
 have hcn2:=hN0.2.1
 have hdn:=hN1.1
 have hdn2:=hN1.2.1
 unfold maxLen at hcn2 hdn2
 clear hN0 hN1 HN HC hup hhalf hq hr ha hb hb2 hql hrl
 go_enter Tryz.func183,Tryz.ntmps183
 go_wp2_with fail
 refine wp_region_grow 14 [10,11,12,13,14,15,16,17,18,9,19,20,6,7] [Fact.is (.pointer (some ⟨g,0,none⟩)),Fact.is (.pointer (some ⟨g,0,none⟩)),Fact.is (.pointer (some ⟨g,3,none⟩)),Fact.is (.slice an (limbs a).length cn),Fact.is (.pointer (some ⟨g,0,none⟩)),Fact.is (.pointer (some ⟨g,0,none⟩)),Fact.is (.pointer (some ⟨g,4,none⟩)),Fact.is (.slice bn (limbs b).length dn),Fact.nn2 q r,Fact.nn2 q r,Fact.li q,Fact.li r,Fact.li q,Fact.li r] (by kernel_rfl) (by kernel_rfl) ⟨?o0,?o1,?o2,?o3,?o4,?o5,?o6,?o7,?o8,?o9,?o10,?o11,?o12,?o13,trivial⟩ ?after
 case o0=>(refine oQ rfl ?_;intro ρ w1 R hcon hfn hρ hb hp hR;have e0:ρ (.tmp 0)=.pointer (some ⟨g,0,none⟩):=hρ.tmp 0 rfl;clear hρ hp;unfold OpRun;go_simp;exact hR _ _ (Below.refl _ _) rfl)
 case o1=>(refine oQ rfl ?_;intro ρ w1 R hcon hfn hρ hb hp hR;have e10:ρ (.tmp 10)=_:=hp 0 10 rfl rfl;clear hρ hp;unfold OpRun;go_simp;exact hR _ _ (Below.refl _ _) rfl)
 case o2=>(refine oQ rfl ?_;intro ρ w1 R hcon hfn hρ hb hp hR;have e11:ρ (.tmp 11)=_:=hp 1 11 rfl rfl;clear hρ hp;unfold OpRun;go_simp;exact hR _ _ (Below.refl _ _) rfl)
 case o3=>(refine oQ rfl ?_;intro ρ w1 R hcon hfn hρ hb hp hR;have e12:ρ (.tmp 12)=_:=hp 2 12 rfl rfl;have j3:=(hb.cell (World.block_lt_of_cell? _ _ k3)).trans k3;clear hρ hp;unfold OpRun;go_simp;exact hR _ _ (Below.refl _ _) rfl)
 case o4=>(refine oQ rfl ?_;intro ρ w1 R hcon hfn hρ hb hp hR;have e0:ρ (.tmp 0)=.pointer (some ⟨g,0,none⟩):=hρ.tmp 0 rfl;clear hρ hp;unfold OpRun;go_simp;exact hR _ _ (Below.refl _ _) rfl)
 case o5=>(refine oQ rfl ?_;intro ρ w1 R hcon hfn hρ hb hp hR;have e14:ρ (.tmp 14)=_:=hp 4 14 rfl rfl;clear hρ hp;unfold OpRun;go_simp;exact hR _ _ (Below.refl _ _) rfl)
 case o6=>(refine oQ rfl ?_;intro ρ w1 R hcon hfn hρ hb hp hR;have e15:ρ (.tmp 15)=_:=hp 5 15 rfl rfl;clear hρ hp;unfold OpRun;go_simp;exact hR _ _ (Below.refl _ _) rfl)
 case o7=>(refine oQ rfl ?_;intro ρ w1 R hcon hfn hρ hb hp hR;have e16:ρ (.tmp 16)=_:=hp 6 16 rfl rfl;have j4:=(hb.cell (World.block_lt_of_cell? _ _ k4)).trans k4;clear hρ hp;unfold OpRun;go_simp;exact hR _ _ (Below.refl _ _) rfl)
 case o8=>(refine oQ rfl ?_;intro ρ w1 R hcon hfn hρ hb hp hR;have e13:ρ (.tmp 13)=_:=hp 3 13 rfl rfl;have e17:ρ (.tmp 17)=_:=hp 7 17 rfl rfl;clear hρ hp;unfold OpRun;go_simp;(refine (OV.out _ (N0.out.below hb) (N1.out.below hb)).mono ?_;rintro e wn ⟨aq,cq,ar,cr,rfl,hq9,hr9,hbn⟩;exact ⟨_,rfl,hR _ _ hbn ⟨aq,cq,ar,cr,rfl,hq9,hr9⟩⟩))
 case o9=>(refine oQ rfl ?_;intro ρ w1 R hcon hfn hρ hb hp hR;have f18:=hp 8 18 rfl rfl;clear hρ hp;unfold OpRun;go_simp;exact hR _ _ (Below.refl _ _) f18)
 case o10=>(refine oQ rfl ?_;intro ρ w1 R hcon hfn hρ hb hp hR;have f9:=hp 9 9 rfl rfl;clear hρ hp;unfold OpRun;go_simp;(obtain ⟨aq,cq,ar,cr,e9,hq9,hr9⟩:=f9;rw [e9];exact hR _ _ (Below.refl _ _) ⟨_,_,rfl,hq9⟩))
 case o11=>(refine oQ rfl ?_;intro ρ w1 R hcon hfn hρ hb hp hR;have f9:=hp 9 9 rfl rfl;clear hρ hp;unfold OpRun;go_simp;(obtain ⟨aq,cq,ar,cr,e9,hq9,hr9⟩:=f9;rw [e9];exact hR _ _ (Below.refl _ _) ⟨_,_,rfl,hr9⟩))
 case o12=>(refine oQ rfl ?_;intro ρ w1 R hcon hfn hρ hb hp hR;have f19:=hp 10 19 rfl rfl;clear hρ hp;unfold OpRun;go_simp;exact hR _ _ (Below.refl _ _) f19)
 case o13=>(refine oQ rfl ?_;intro ρ w1 R hcon hfn hρ hb hp hR;have f20:=hp 11 20 rfl rfl;clear hρ hp;unfold OpRun;go_simp;exact hR _ _ (Below.refl _ _) f20)
 case after=>
  intro u wn hb hf
  have f6:=hf 12 6 (by omega) rfl
  have f7:=hf 13 7 (by omega) rfl
  clear hf
  simp only [putAll,Act.put,List.setIfInBounds_toArray,List.set_cons_zero,List.set_cons_succ,List.drop_succ_cons,List.drop_zero,List.drop_nil]
  obtain ⟨aq,cq,e6,hNq⟩:=f6
  obtain ⟨ar,cr,e7,hNr⟩:=f7
  rw [e6,e7]
  clear e6 e7
  have hcq:=hNq.1
  have hcq2:=hNq.2.1
  have hcr:=hNr.1
  have hcr2:=hNr.2.1
  unfold maxLen at hcq2 hcr2
  have NQ:=hid hNq
  have NR:=hid hNr
  have yb1:=hb
  clear hb
  obtain ⟨w1,hw1⟩: ∃W,W=wn:=⟨_,rfl⟩
  subst hw1
  have K0:=hid ((yb1.cell (World.block_lt_of_cell? _ _ k0)).trans k0)
  have K4:=hid ((yb1.cell (World.block_lt_of_cell? _ _ k4)).trans k4)
  have N1':=hid (N1.out.below yb1)
  clear N0 N1 k0 k3 k4 OV
  by_cases hr0:r=0
  ·have hl0:(limbs r).length=0:=by rw [hr0];rfl
   have HC:CC=false:=HCC.out.trans (decide_eq_false (fun h=>h hr0))
   have HQ:NN=q:=HNN.out.trans (if_neg (fun h=>h.1 hr0))
   clear HNN HCC
   subst HC
   clear hr0
   have HQQ:=hid HQ
   clear HQ
   go_wp2_with fail
   go_ret2
   rw [HQQ.out]
   exact ⟨aq,cq,rfl,NQ.out,yb1⟩
  ·have hl0:0<(limbs r).length:=by
    rcases Nat.eq_zero_or_pos (limbs r).length with h9|h9
    ·have:=(limbs_nil r).1 (List.length_eq_zero_iff.1 h9);omega
    ·exact h9
   have HC:CC=true:=HCC.out.trans (decide_eq_true hr0)
   have HQ:=hid (show (up=true→NN=q+1)∧(up=false→NN=q) from ⟨fun hu=>HNN.out.trans (if_pos ⟨hr0,hu⟩),fun hu=>HNN.out.trans (if_neg (fun h=>by rw [hu] at h;exact absurd h.2 (by simp)))⟩)
   have hne:(((limbs r).length:Int)==0)=false:=beq_eq_false_iff_ne.2 (by omega)
   clear HNN HCC
   subst HC
   clear hr0
   go_upto_region 4 with fail
   go_cut [8] (fun s8 wx=>s8=.bool (decide (q%2=1))∧wx=w1)
   case first=>
    by_cases hq0:(limbs q).length=0
    ·have hqz:q=0:=(limbs_nil q).1 (List.length_eq_zero_iff.1 hq0)
     have HO:=hid (show decide (q%2=1)=false by rw [hqz];rfl)
     have hq1:decide (0<(limbs q).length)=false:=decide_eq_false (by omega)
     clear hqz hq0
     go_wp2_with fail
     go_meet
     exact ⟨by rw [HO.out],rfl⟩
    ·obtain ⟨b1,o1,rfl,hc1⟩:=NQ.out.2.2 (by omega)
     obtain ⟨x,hx⟩: ∃x,x=(limbs q).getD 0 0:=⟨_,rfl⟩
     have k1:w1.cell? ⟨b1,o1,none⟩=some (.int .u32 (x:Int)):=by have:=hc1 0 (by omega);rw [hx];exact this
     have hxo:x%2=q%2:=by rw [hx];exact limbs_odd q (by omega)
     have hx2:x<4294967296:=by rw [hx];exact (limbs_lim q).getD (by omega) 0
     have hpos:0<(limbs q).length:=by omega
     have HO:=hid (show ((x:Int)%2==1)=decide (q%2=1) by rw [Bool.eq_iff_iff,beq_iff_eq,decide_eq_true_eq];omega)
     clear hc1 hx hxo hq0
     go_wp2_with fail
     go_meet
     exact ⟨by rw [HO.out],rfl⟩
   case rest=>
    obtain ⟨rfl,hwc⟩:=hcut
    subst hwc
    have UPo:=hid (fun w=>UP.out (decide (q%2=1)) w rfl)
    generalize decide (q%2=1)=od at *
    go_upto_region 5 with fail
    refine wp_region_grow 15 [35,36,37,38,39,40,41,42,43,44,45,46,47,48,49] [Fact.is (.pointer (some ⟨g,0,none⟩)),Fact.is (.pointer (some ⟨g,0,none⟩)),Fact.is (.pointer (some ⟨g,0,none⟩)),Fact.is (.pointer (some ⟨g,0,none⟩)),Fact.is (.bool neg),Fact.is (.bool od),Fact.is (.slice ar (limbs r).length cr),Fact.li (2*r),Fact.is (.pointer (some ⟨g,0,none⟩)),Fact.is (.pointer (some ⟨g,0,none⟩)),Fact.is (.pointer (some ⟨g,4,none⟩)),Fact.is (.slice bn (limbs b).length dn),Fact.is (.int .i64 half),Fact.is (.int .i64 mode),Fact.is (.bool up)] (by kernel_rfl) (by kernel_rfl) ⟨?o0,?o1,?o2,?o3,?o4,?o5,?o6,?o7,?o8,?o9,?o10,?o11,?o12,?o13,?o14,trivial⟩ ?after
    case o0=>(refine oQ rfl ?_;intro ρ w1 R hcon hfn hρ hb hp hR;have e0:ρ (.tmp 0)=.pointer (some ⟨g,0,none⟩):=hρ.tmp 0 rfl;clear hρ hp;unfold OpRun;go_simp;exact hR _ _ (Below.refl _ _) rfl)
    case o1=>(refine oQ rfl ?_;intro ρ w1 R hcon hfn hρ hb hp hR;have e35:ρ (.tmp 35)=_:=hp 0 35 rfl rfl;clear hρ hp;unfold OpRun;go_simp;exact hR _ _ (Below.refl _ _) rfl)
    case o2=>(refine oQ rfl ?_;intro ρ w1 R hcon hfn hρ hb hp hR;have e36:ρ (.tmp 36)=_:=hp 1 36 rfl rfl;clear hρ hp;unfold OpRun;go_simp;exact hR _ _ (Below.refl _ _) rfl)
    case o3=>(refine oQ rfl ?_;intro ρ w1 R hcon hfn hρ hb hp hR;have e37:ρ (.tmp 37)=_:=hp 2 37 rfl rfl;clear hρ hp;unfold OpRun;go_simp;exact hR _ _ (Below.refl _ _) rfl)
    case o4=>(refine oQ rfl ?_;intro ρ w1 R hcon hfn hρ hb hp hR;have e38:ρ (.tmp 38)=_:=hp 3 38 rfl rfl;have j0:=(hb.cell (World.block_lt_of_cell? _ _ K0.out)).trans K0.out;clear hρ hp;unfold OpRun;go_simp;exact hR _ _ (Below.refl _ _) rfl)
    case o5=>(refine oQ rfl ?_;intro ρ w1 R hcon hfn hρ hb hp hR;have e8:ρ (.tmp 8)=.bool od:=hρ.tmp 8 rfl;clear hρ hp;unfold OpRun;go_simp;exact hR _ _ (Below.refl _ _) rfl)
    case o6=>(refine oQ rfl ?_;intro ρ w1 R hcon hfn hρ hb hp hR;have e7:ρ (.tmp 7)=.slice ar (limbs r).length cr:=hρ.tmp 7 rfl;clear hρ hp;unfold OpRun;go_simp;exact hR _ _ (Below.refl _ _) rfl)
    case o7=>(refine oQ rfl ?_;intro ρ w1 R hcon hfn hρ hb hp hR;have e41:ρ (.tmp 41)=_:=hp 6 41 rfl rfl;clear hρ hp;unfold OpRun;go_simp;(refine (LE.out _ _ _ (NR.out.below hb)).mono ?_;rintro e wn ⟨a9,rfl,hn9,hbn⟩;exact ⟨_,rfl,hR _ _ hbn ⟨a9,_,rfl,hn9⟩⟩))
    case o8=>(refine oQ rfl ?_;intro ρ w1 R hcon hfn hρ hb hp hR;have e0:ρ (.tmp 0)=.pointer (some ⟨g,0,none⟩):=hρ.tmp 0 rfl;clear hρ hp;unfold OpRun;go_simp;exact hR _ _ (Below.refl _ _) rfl)
    case o9=>(refine oQ rfl ?_;intro ρ w1 R hcon hfn hρ hb hp hR;have e43:ρ (.tmp 43)=_:=hp 8 43 rfl rfl;clear hρ hp;unfold OpRun;go_simp;exact hR _ _ (Below.refl _ _) rfl)
    case o10=>(refine oQ rfl ?_;intro ρ w1 R hcon hfn hρ hb hp hR;have e44:ρ (.tmp 44)=_:=hp 9 44 rfl rfl;clear hρ hp;unfold OpRun;go_simp;exact hR _ _ (Below.refl _ _) rfl)
    case o11=>(refine oQ rfl ?_;intro ρ w1 R hcon hfn hρ hb hp hR;have e45:ρ (.tmp 45)=_:=hp 10 45 rfl rfl;have j4:=(hb.cell (World.block_lt_of_cell? _ _ K4.out)).trans K4.out;clear hρ hp;unfold OpRun;go_simp;exact hR _ _ (Below.refl _ _) rfl)
    case o12=>(refine oQ rfl ?_;intro ρ w1 R hcon hfn hρ hb hp hR;have f42:=hp 7 42 rfl rfl;have e46:ρ (.tmp 46)=_:=hp 11 46 rfl rfl;obtain ⟨a9,c9,e42,hn9⟩:=f42;clear hρ hp;unfold OpRun;go_simp;(refine (CM.out _ _ _ hn9 (N1'.out.below hb)).mono ?_;rintro e wn ⟨rfl,hbn⟩;exact ⟨_,rfl,hR _ _ hbn rfl⟩))
    case o13=>(refine oQ rfl ?_;intro ρ w1 R hcon hfn hρ hb hp hR;have e1:ρ (.tmp 1)=.int .i64 mode:=hρ.tmp 1 rfl;clear hρ hp;unfold OpRun;go_simp;exact hR _ _ (Below.refl _ _) rfl)
    case o14=>(refine oQ rfl ?_;intro ρ w1 R hcon hfn hρ hb hp hR;have e39:ρ (.tmp 39)=_:=hp 4 39 rfl rfl;have e40:ρ (.tmp 40)=_:=hp 5 40 rfl rfl;have e47:ρ (.tmp 47)=_:=hp 12 47 rfl rfl;have e48:ρ (.tmp 48)=_:=hp 13 48 rfl rfl;clear hρ hp;unfold OpRun;go_simp;(refine (UPo.out _).mono ?_;rintro e wn ⟨rfl,rfl⟩;exact ⟨_,rfl,hR _ _ (Below.refl _ _) rfl⟩))
    case after=>
     intro u wn hb hf
     have e49:u 49=_:=hf 14 49 (by omega) rfl
     clear hf
     simp only [putAll,Act.put,List.setIfInBounds_toArray,List.set_cons_zero,List.set_cons_succ,List.drop_succ_cons,List.drop_zero,List.drop_nil]
     rw [e49]
     have yb2:=below_trans yb1 hb
     have NQ2:=hid (NQ.out.below hb)
     clear hb yb1 K0 K4 LE CM UP UPo NR N1'
     cases up
     ·go_wp2_with fail
      go_ret2
      rw [HQ.out.2 (by first|rfl|trivial)]
      exact ⟨aq,cq,rfl,NQ2.out,yb2⟩
     ·go_wp2_with (first
       |(go_at_call 95;(with_reducible refine (OF.out _).mono ?_);rintro e w8 ⟨a8,rfl,hN8,hb8⟩)
       |(go_at_call 163;(with_reducible refine (PL.out _ _ _ _ _ (NQ2.out.below hb8) hN8).mono ?_);rintro e w9 ⟨a9,rfl,hN9,hb9⟩))
      go_ret2
      rw [HQ.out.1 (by first|rfl|trivial)]
      exact ⟨_,_,rfl,hN9,below_trans (below_trans yb2 hb8) hb9⟩
end Go.Proofs.YtfphmlmgjhebjaaGreatDoor
namespace Go.Ulp
open Go.RowKit
def DF (tz ti:TypeId) (gS gQ gR m:Nat) (w1:World) (l:List (Nat×Bool×Value)) (T:List Nat) (R:Int) (W:World):Prop:=
 KV tz W l∧ZL tz W gQ false (.slice (some ⟨gS,0,none⟩) m m)∧Own gS ti .i64 W (.slice (some ⟨gS,0,none⟩) m m) T∧RV tz ti gS W gR R∧Below w1.heap.size w1 W
def DO (gS gQ gR:Nat) (w1:World) (l:List (Nat×Bool×Value)):Prop:=(∀e∈l,e.1<gS)∧gS<gQ∧gQ<gR∧w1.heap.size≤gS
section
variable {tz ti:TypeId} {gS gQ gR m:Nat} {w1:World} {l:List (Nat×Bool×Value)} {T:List Nat} {R:Int} {W W':World}
theorem DF.below (h:DF tz ti gS gQ gR m w1 l T R W) (hb:Below W.heap.size W W'):DF tz ti gS gQ gR m w1 l T R W':=by
 obtain ⟨h1,h2,h3,h4,h5⟩:=h
 exact ⟨h1.below hb,h2.below hb,h3.kept hb,h4.below hb,below_trans h5 hb⟩
theorem DF.drew (h:DF tz ti gS gQ gR m w1 l T R W):DF tz ti gS gQ gR m w1 l T R W.drew:=h.below (Below.drew (Below.refl _ _))
theorem DF.drewN (h:DF tz ti gS gQ gR m w1 l T R W) (n:Nat):DF tz ti gS gQ gR m w1 l T R (W.drewN n):=h.below (below_drewN (Below.refl _ _) n)
theorem DF.alloc (h:DF tz ti gS gQ gR m w1 l T R W) (o:Obj):DF tz ti gS gQ gR m w1 l T R (W.alloc o):=h.below (below_alloc _ _)
theorem DF.set2 (ho:DO gS gQ gR w1 l) (hne:tz≠ti) (h:DF tz ti gS gQ gR m w1 l T R W) {b:Nat} (hs:ElemIs W b tz) (hb:gR<b) (u v:Value):DF tz ti gS gQ gR m w1 l T R ((W.setCell ⟨b,0,none⟩ u).setCell ⟨b,1,none⟩ v):=by
 obtain ⟨h1,h2,h3,h4,h5⟩:=h
 obtain ⟨o1,o2,o3,o4⟩:=ho
 exact ⟨h1.far2 (fun e he=>by have:=o1 e he;omega) _ _,(h2.far _ _ (by simp;omega)).far _ _ (by simp;omega),(h3.far _ (by simp;omega) _).far _ (by simp;omega) _,h4.set2 hs hne (by omega) _ _,(h5.setCell (by simp;omega) _).setCell (by simp;omega) _⟩
def ZV (tz ti:TypeId) (w:World) (g:Nat) (x:Int):Prop:= ∃ao cap,ZL tz w g (zneg x) (.slice ao (zl x).length cap)∧Nz ti w ao cap (zl x)
theorem RV.zv {f g:Nat} {x:Int} (h:RV tz ti f W g x):ZV tz ti W g x:=by obtain ⟨ao,cap,h1,h2,_⟩:=h;exact ⟨ao,cap,h1,h2⟩
theorem ZV.below {g:Nat} {x:Int} (h:ZV tz ti W g x) (hb:Below W.heap.size W W'):ZV tz ti W' g x:=by obtain ⟨ao,cap,h1,h2⟩:=h;exact ⟨ao,cap,h1.below hb,h2.below hb⟩
theorem ZV.set2 {g b:Nat} {x:Int} (h:ZV tz ti W g x) (hs:ElemIs W b tz) (hne:tz≠ti) (hgb:g≠b) (u v:Value):ZV tz ti ((W.setCell ⟨b,0,none⟩ u).setCell ⟨b,1,none⟩ v) g x:=by
 obtain ⟨ao,cap,h1,h2⟩:=h
 exact ⟨ao,cap,(h1.far _ _ hgb).far _ _ hgb,(h2.setCell hs hne 0 u).setCell (hs.setCell _ _) hne 1 v⟩
theorem ZV.store {g:Nat} {n:Bool} {v:Value} {y:Int} {ao:Option Addr} {cap:Nat} (h:ZL tz W g n v) (hN:Nz ti W ao cap (zl y)) (hne:tz≠ti):ZV tz ti ((W.setCell ⟨g,0,none⟩ (.bool (zneg y))).setCell ⟨g,1,none⟩ (.slice ao (zl y).length cap)) g y:=
 ⟨ao,cap,(h.set0 _).set1 _,(hN.setCell h.2.2.2.2 hne 0 _).setCell (h.2.2.2.2.setCell _ _) hne 1 _⟩
def DG (tz ti:TypeId) (gS gQ gR:Nat) (w1:World) (l:List (Nat×Bool×Value)) (q r:Int) (W:World):Prop:=
 KV tz W l∧ZV tz ti W gQ q∧ZV tz ti W gR r∧Below w1.heap.size w1 W
theorem DG.below {q r:Int} (h:DG tz ti gS gQ gR w1 l q r W) (hb:Below W.heap.size W W'):DG tz ti gS gQ gR w1 l q r W':=by
 obtain ⟨h1,h2,h3,h4⟩:=h
 exact ⟨h1.below hb,h2.below hb,h3.below hb,below_trans h4 hb⟩
theorem DF.dg {y:Int} (ho:DO gS gQ gR w1 l) (hne:tz≠ti) (h:DF tz ti gS gQ gR m w1 l T R W) {ao:Option Addr} {cap:Nat} (hN:Nz ti W ao cap (zl y)):DG tz ti gS gQ gR w1 l y R ((W.setCell ⟨gQ,0,none⟩ (.bool (zneg y))).setCell ⟨gQ,1,none⟩ (.slice ao (zl y).length cap)):=by
 obtain ⟨h1,h2,h3,h4,h5⟩:=h
 obtain ⟨o1,o2,o3,o4⟩:=ho
 exact ⟨h1.far2 (fun e he=>by have:=o1 e he;omega) _ _,ZV.store h2 hN hne,h4.zv.set2 h2.2.2.2.2 hne (by omega) _ _,(h5.setCell (by simp;omega) _).setCell (by simp;omega) _⟩
end
end Go.Ulp
namespace Go.Proofs.YtfphmlmgjhebjaaGreatDoor
open Go.RowKit Go.Ulp
set_option maxHeartbeats 20000000
set_option maxRecDepth 100000
end Go.Proofs.YtfphmlmgjhebjaaGreatDoor
namespace Go.Ulp
open Go.RowKit
def ZD2 (t:TypeId) (w:World) (x y:Int) (v:Value):Prop:=
 ∃ao cap bo cbp,v=.tuple #[.agg #[.bool (zneg x),.slice ao (zl x).length cap],.agg #[.bool (zneg y),.slice bo (zl y).length cbp]]∧Nz t w ao cap (zl x)∧Nz t w bo cbp (zl y)
def Fact.z2 (t:TypeId) (x y:Int):Fact:=⟨fun v w=>ZD2 t w x y v,fun _ _ _ h hb=>by
 obtain ⟨ao,cap,bo,cbp,h1,h2,h3⟩:=h;exact ⟨ao,cap,bo,cbp,h1,h2.below hb,h3.below hb⟩⟩
def Fact.z0 (B:Nat) (t:TypeId):Fact:=⟨fun v w=> ∃g,v=.pointer (some ⟨g,0,none⟩)∧B≤g∧ZL t w g false (.slice none 0 0),fun _ _ _ h hb=>by
 obtain ⟨g,h1,h2,h3⟩:=h;exact ⟨g,h1,h2,h3.below hb⟩⟩
end Go.Ulp
namespace Go.Proofs.YtfphmlmgjhebjaaGreatDoor
open Go.RowKit Go.Ulp
set_option maxHeartbeats 4000000
set_option maxRecDepth 100000
end Go.Proofs.YtfphmlmgjhebjaaGreatDoor
namespace Go.Ulp
open Go.RowKit
def bsOf (L:List UInt8):ByteArray:=⟨L.toArray⟩
theorem bs_size (L:List UInt8):(bsOf L).size=L.length:=by simp [bsOf,ByteArray.size]
theorem bs_list (L:List UInt8):(bsOf L).data.toList=L:=by simp [bsOf]
theorem bs_toList (L:List UInt8):(bsOf L).toList=L:=by unfold bsOf;exact ByteArray.toList_mk L
theorem bs_app (A B:List UInt8):bsOf A++bsOf B=bsOf (A++B):=by
 apply ByteArray.ext
 simp [bsOf]
theorem ret_bs {A B:List UInt8} (h:A=B):Ending.returned (.string (bsOf A))=.returned (.string (bsOf B)):=by rw [h]
theorem add_bs {P:Program} (A B:List UInt8) (h:A.length+B.length≤9223372036854775807) (w:World):(Op.stringOp .add (bsOf A) (bsOf B)).run P w=.ok (.string (bsOf (A++B))) w:=by
 rw [run_string_add_sum w _ _ (by rw [bs_size,bs_size];exact h),bs_app]
def strSz (v:Value):Nat:=match v with| .string b=>b.size|_=>0
theorem strSz_bs (L:List UInt8):strSz (.string (bsOf L))=L.length:=bs_size L
end Go.Ulp
namespace Go.Proofs.YtfphmlmgjhebjaaGreatDoor
open Go.RowKit Go.Ulp
set_option maxHeartbeats 1000000
set_option maxRecDepth 100000
end Go.Proofs.YtfphmlmgjhebjaaGreatDoor
namespace Go.Ulp
open Go.RowKit
def Fact.q (t:TypeId) (D:Dy) (A T:Nat):Fact:=⟨fun v w=>QD t w D A T v,fun _ _ _ h hb=>h.below hb⟩
end Go.Ulp
namespace Go.Proofs.YtfphmlmgjhebjaaGreatDoor
open Go.RowKit Go.Ulp
set_option maxHeartbeats 1000000
set_option maxRecDepth 100000
end Go.Proofs.YtfphmlmgjhebjaaGreatDoor
namespace Go.Ulp
open Go.RowKit
def mulK (D:Dy) (p:Int):Bool:=decide (p≤D.2∨D.1=0)
def mplD (D:Dy) (p mode:Int):Dy:=if mulK D p=true then nrm D.1 D.2 else nrm (sg (decide (D.1<0)) (cutN (decide (D.1<0)) D.1.natAbs (p-D.2) mode:Int)) p
def mplC (D:Dy) (p:Int):Bool:=if mulK D p=true then false else cutC D.1.natAbs (p-D.2)
def RetMp (w:World) (D:Dy) (ch:Bool) (e:Ending) (w':World):Prop:= ∃v,e=.returned (.tuple #[v,.bool ch])∧VD w' D v∧Below w.heap.size w w'
end Go.Ulp
namespace Go.Proofs.YtfphmlmgjhebjaaGreatDoor
open Go.RowKit Go.Ulp
set_option maxHeartbeats 1000000
set_option maxRecDepth 100000
theorem multiple_any (v:Value) (D:Dy) (p mode:Int) (w:World) (hv:VD w D v) (hl:(limbs D.1.natAbs).length≤10000) (he: -100000≤D.2∧D.2≤100000) (hp: -100000≤p∧p≤100000)
 (hcl:(limbs (cutN (decide (D.1<0)) D.1.natAbs (p-D.2) mode)).length≤1000000) (hT:Tab 1 w):
 Calls Tryz.prog 187 #[v,.int .i64 p,.int .i64 mode] w (RetMp w (mplD D p mode) (mplC D p)):=by
 obtain ⟨am,cm,rfl,hN⟩:=hv
 have HN:=hid hN
 have HT:=hid hT
 have lD:=dy_len D
 have yb0:Below w.heap.size w ((w.alloc (.cells #[.bool (decide (D.1<0)),.slice am (limbs D.1.natAbs).length cm,.int .i64 D.2] 67)).alloc (.cells #[.bool false,.slice none 0 0,.int .i64 0] 67)):=by (repeat' first|(with_reducible first|assumption|apply bR|apply bA|apply bN|apply bD|apply bL|apply bS)|refine bT ?_ (by assumption)|go_size)
 have zA0:QL 67 ((w.alloc (.cells #[.bool (decide (D.1<0)),.slice am (limbs D.1.natAbs).length cm,.int .i64 D.2] 67)).alloc (.cells #[.bool false,.slice none 0 0,.int .i64 0] 67)) w.heap.size (decide (D.1<0)) (.slice am (limbs D.1.natAbs).length cm) D.2:=(QL.made rfl).alloc _
 have zR0:QL 67 ((w.alloc (.cells #[.bool (decide (D.1<0)),.slice am (limbs D.1.natAbs).length cm,.int .i64 D.2] 67)).alloc (.cells #[.bool false,.slice none 0 0,.int .i64 0] 67)) (w.heap.size+1) false (.slice none 0 0) 0:=QL.made (by first|omega|(simp;done)|(simp;omega))
 cases hk:mulK D p
 ·have e1:mplD D p mode=nrm (sg (decide (D.1<0)) (cutN (decide (D.1<0)) D.1.natAbs (p-D.2) mode:Int)) p:=by unfold mplD;rw [hk];rfl
  have e2:mplC D p=cutC D.1.natAbs (p-D.2):=by unfold mplC;rw [hk];rfl
  rw [e1,e2]
  have hk2: ¬(p≤D.2∨D.1=0):=of_decide_eq_false hk
  have hge: ¬p≤D.2:=fun h=>hk2 (.inl h)
  have hlb:(((limbs D.1.natAbs).length:Int)==0)=false:=beq_eq_false_iff_ne.2 (fun h=>hk2 (.inr (lD.1 (by omega))))
  have CU:=hid (fun w h=>cut_any (decide (D.1<0)) am cm D.1.natAbs (p-D.2) mode w h (by omega) (by omega))
  have NO:=hid (fun a c w h t=>normD_any (decide (D.1<0)) a c (cutN (decide (D.1<0)) D.1.natAbs (p-D.2) mode) p w h hcl (by omega) t)
  generalize nrm (sg (decide (D.1<0)) (cutN (decide (D.1<0)) D.1.natAbs (p-D.2) mode:Int)) p=R at *
  generalize cutN (decide (D.1<0)) D.1.natAbs (p-D.2) mode=q at *
  generalize cutC D.1.natAbs (p-D.2)=ch at *
  generalize D.1.natAbs=M0 at *
  generalize decide (D.1<0)=n0 at *
  generalize D.2=e0 at *
  clear hN hT hk hk2 e1 e2 lD hcl
  go_enter Tryz.func187,Tryz.ntmps187
  obtain ⟨⟨j0,j1,-,-,-⟩,j2,-⟩:=id zA0
  go_upto_region 4 with (go_at_call 152;(with_reducible refine (CU.out _ (HN.out.below yb0)).mono ?_);rintro en w1 ⟨a1,rfl,hN1,hb1⟩;have yb1:=below_trans yb0 hb1;have zA1:=zA0.below hb1;have zR1:=zR0.below hb1)
  obtain ⟨⟨i0,i1,-,-,-⟩,i2,-⟩:=id zA1
  go_wp2_with (go_at_call 156;(with_reducible refine (NO.out _ _ _ hN1 (HT.out.below yb1)).mono ?_);rintro en w3 ⟨v3,rfl,⟨a3,c3,rfl,hN3⟩,hb3⟩;have zR3:=zR1.below hb3;have yb3:=below_trans yb1 hb3;obtain ⟨⟨k0,k1,f0,f1,hs2⟩,k2,f2⟩:=id zR3)
  refine bodyPost_ret (by simp [results,Tryz.results187,go_sem,k0,k1,k2];try rfl) rfl ?_
  exact ⟨_,rfl,⟨a3,c3,rfl,hN3.set3 zR3 (by intro x h;cases h) _ _ _⟩,((yb3.setCell (by first|omega|(simp;done)|(simp;omega)) _).setCell (by first|omega|(simp;done)|(simp;omega)) _).setCell (by first|omega|(simp;done)|(simp;omega)) _⟩
 ·have e1:mplD D p mode=nrm D.1 D.2:=by unfold mplD;rw [hk];rfl
  have e2:mplC D p=false:=by unfold mplC;rw [hk];rfl
  rw [e1,e2]
  have hk2:p≤D.2∨D.1=0:=of_decide_eq_true hk
  have hk3:p≤D.2∨(¬p≤D.2∧(limbs D.1.natAbs).length=0):=by
   rcases Int.lt_or_le D.2 p with h|h
   ·right;refine ⟨by omega,lD.2 ?_⟩
    rcases hk2 with h2|h2
    ·omega
    ·exact h2
   ·exact .inl h
  have NO:=hid (show ∀w,Ns .u32 w am cm (limbs D.1.natAbs)→Tab 1 w→Calls Tryz.prog 156 #[.bool (decide (D.1<0)),.slice am (limbs D.1.natAbs).length cm,.int .i64 D.2] w (RetVD w (nrm D.1 D.2)) from fun w k t=>by
   have:=normD_any (decide (D.1<0)) am cm D.1.natAbs D.2 w k (by omega) (by omega) t
   rwa [sg_self] at this)
  generalize nrm D.1 D.2=R at *
  generalize D.1.natAbs=M0 at *
  generalize decide (D.1<0)=n0 at *
  generalize D.2=e0 at *
  clear hN hT hk hk2 e1 e2 lD hcl
  rcases hk3 with hge|⟨hge,hz⟩
  ·go_enter Tryz.func187,Tryz.ntmps187
   obtain ⟨⟨j0,j1,-,-,-⟩,j2,-⟩:=id zA0
   go_wp2_with (go_at_call 156;(with_reducible refine (NO.out _ (HN.out.below yb0) (HT.out.below yb0)).mono ?_);rintro en w3 ⟨v3,rfl,⟨a3,c3,rfl,hN3⟩,hb3⟩;have zR3:=zR0.below hb3;have yb3:=below_trans yb0 hb3;obtain ⟨⟨k0,k1,f0,f1,hs2⟩,k2,f2⟩:=id zR3)
   refine bodyPost_ret (by simp [results,Tryz.results187,go_sem,k0,k1,k2];try rfl) rfl ?_
   exact ⟨_,rfl,⟨a3,c3,rfl,hN3.set3 zR3 (by intro x h;cases h) _ _ _⟩,((yb3.setCell (by first|omega|(simp;done)|(simp;omega)) _).setCell (by first|omega|(simp;done)|(simp;omega)) _).setCell (by first|omega|(simp;done)|(simp;omega)) _⟩
  ·rw [hz] at zA0 zR0 yb0 NO ⊢
   clear hz
   go_enter Tryz.func187,Tryz.ntmps187
   obtain ⟨⟨j0,j1,-,-,-⟩,j2,-⟩:=id zA0
   go_wp2_with (go_at_call 156;(with_reducible refine (NO.out _ (HN.out.below yb0) (HT.out.below yb0)).mono ?_);rintro en w3 ⟨v3,rfl,⟨a3,c3,rfl,hN3⟩,hb3⟩;have zR3:=zR0.below hb3;have yb3:=below_trans yb0 hb3;obtain ⟨⟨k0,k1,f0,f1,hs2⟩,k2,f2⟩:=id zR3)
   refine bodyPost_ret (by simp [results,Tryz.results187,go_sem,k0,k1,k2];try rfl) rfl ?_
   exact ⟨_,rfl,⟨a3,c3,rfl,hN3.set3 zR3 (by intro x h;cases h) _ _ _⟩,((yb3.setCell (by first|omega|(simp;done)|(simp;omega)) _).setCell (by first|omega|(simp;done)|(simp;omega)) _).setCell (by first|omega|(simp;done)|(simp;omega)) _⟩
end Go.Proofs.YtfphmlmgjhebjaaGreatDoor
namespace Go.Ulp
open Go.RowKit
end Go.Ulp
namespace Go.Proofs.YtfphmlmgjhebjaaGreatDoor
open Go.RowKit Go.Ulp
set_option maxHeartbeats 2000000
set_option maxRecDepth 100000
end Go.Proofs.YtfphmlmgjhebjaaGreatDoor
namespace Go.Ulp
open Go.RowKit
theorem ZD2.parts {t:TypeId} {w:World} {x y:Int} {v:Value} (h:ZD2 t w x y v): ∃a b,v=.tuple #[a,b]∧ZD t w x a∧ZD t w y b:=by
 obtain ⟨ao,cap,bo,cbp,h1,h2,h3⟩:=h;exact ⟨_,_,h1,⟨ao,cap,rfl,h2⟩,⟨bo,cbp,rfl,h3⟩⟩
theorem ZD.cast {t:TypeId} {w:World} {x y:Int} {v:Value} (h:ZD t w x v) (e:x=y):ZD t w y v:=by rw [←e];exact h
theorem ZV.cast {tz ti:TypeId} {w:World} {x y:Int} {g:Nat} (h:ZV tz ti w g x) (e:x=y):ZV tz ti w g y:=by rw [←e];exact h
theorem ZV.lt {tz ti:TypeId} {w:World} {x:Int} {g:Nat} (h:ZV tz ti w g x):g<w.heap.size:=by obtain ⟨ao,cap,h1,h2⟩:=h;exact h1.lt
theorem wp_worldZ {P:Program} {c:Code} {Q:Exit→Act→World→Prop} {a:Act} {w0:World} (F:World→Prop) (hF:F w0) (h: ∀w,F w→Code.wp P c Q a w):Code.wp P c Q a w0:=h w0 hF
end Go.Ulp
namespace Go.Proofs.YtfphmlmgjhebjaaGreatDoor
open Go.RowKit Go.Ulp
set_option maxHeartbeats 1000000
set_option maxRecDepth 100000
end Go.Proofs.YtfphmlmgjhebjaaGreatDoor
namespace Go.Ulp
open Go.RowKit
def dA (D:Dy):Nat:=D.1.natAbs*2^D.2.toNat
def dB (D:Dy):Nat:=2^(-D.2).toNat
theorem dB_pos (D:Dy):0<dB D:=Nat.two_pow_pos _
theorem nrm_ratio {X:Int} {n:Nat} {D:Dy} (h:nrm X (-(n:Int))=D):X.natAbs*dB D=dA D*2^n:=by
 obtain ⟨k,h1,h2⟩:=nrm_rep X (-(n:Int))
 rw [h] at h1 h2
 by_cases hX:X=0
 ·have:D=(0,0):=by rw [←h,hX];rfl
  subst this
  rw [hX];simp [dA]
 ·have h2:=h2 hX
  have h3:X.natAbs=D.1.natAbs*2^k:=by rw [h1];exact natAbs_mul_pw _ _
  unfold dA dB
  rw [h3,Nat.mul_assoc,Nat.mul_assoc,←Nat.pow_add,←Nat.pow_add]
  congr 2
  omega
end Go.Ulp
namespace Go.Proofs.YtfphmlmgjhebjaaGreatDoor
open Go.RowKit Go.Ulp
set_option maxHeartbeats 1000000
set_option maxRecDepth 100000
end Go.Proofs.YtfphmlmgjhebjaaGreatDoor
namespace Go.Ulp
open Go.RowKit
def RetRat (w:World) (neg:Bool) (a b:Nat) (e:Ending) (w':World):Prop:= ∃g,e=.returned (.pointer (some ⟨g,0,none⟩))∧RtAt w' g neg a b∧Below w.heap.size w w'
def Fact.rat (neg:Bool) (a b:Nat):Fact:=⟨fun v w=> ∃g,v=.pointer (some ⟨g,0,none⟩)∧RtAt w g neg a b,fun _ _ _ h hb=>by
 obtain ⟨g,h1,h2⟩:=h;exact ⟨g,h1,h2.below hb⟩⟩
def Fact.rtv (neg:Bool) (s:Value) (x:Int) (a b:Nat):Fact:=⟨fun v w=> ∃an cn bn dn,v=.agg #[.bool neg,s,.int .i64 x,.slice an (limbs a).length cn,.slice bn (limbs b).length dn]∧Ns .u32 w an cn (limbs a)∧Ns .u32 w bn dn (limbs b),fun _ _ _ h hb=>by
 obtain ⟨an,cn,bn,dn,h1,h2,h3⟩:=h;exact ⟨an,cn,bn,dn,h1,h2.below hb,h3.below hb⟩⟩
theorem rat_made (w:World) (neg:Bool) (s:Value) (x:Int) (a b:Nat) (an bn:Option Addr) (cn dn:Nat) (t:TypeId) (h:Ns .u32 w an cn (limbs a)) (k:Ns .u32 w bn dn (limbs b)):
 RtAt (w.alloc (.cells #[.bool neg,s,.int .i64 x,.slice an (limbs a).length cn,.slice bn (limbs b).length dn] t)) w.heap.size neg a b:=by
 refine ⟨an,cn,bn,dn,?_,?_,?_,h.below (below_alloc _ _),k.below (below_alloc _ _)⟩
 ·rw [World.cell?_alloc_at (hn:=rfl)];rfl
 ·rw [World.cell?_alloc_at (hn:=rfl)];rfl
 ·rw [World.cell?_alloc_at (hn:=rfl)];rfl
end Go.Ulp
namespace Go.Proofs.YtfphmlmgjhebjaaGreatDoor
open Go.RowKit Go.Ulp
set_option maxHeartbeats 1000000
set_option maxRecDepth 100000
theorem scaled_any (v:Value) (D:Dy) (t:Int) (w:World) (hv:VD w D v) (hl:(limbs D.1.natAbs).length≤1000) (he: -20000≤D.2∧D.2≤20000) (ht: -10000≤t∧t≤10000):
 Calls Tryz.prog 182 #[v,.int .i64 t] w (RetRat w (decide (D.1<0)) (dA D*tnN t) (dB D*tnN (-t))):=by
 obtain ⟨am,cm,rfl,hN⟩:=hv
 obtain ⟨M,hM⟩: ∃M,M=D.1.natAbs:=⟨_,rfl⟩
 obtain ⟨x,hx⟩: ∃x,x=D.2:=⟨_,rfl⟩
 obtain ⟨neg,hneg⟩: ∃n,n=decide (D.1<0):=⟨_,rfl⟩
 obtain ⟨T,hT⟩: ∃T:Nat,T=t.toNat:=⟨_,rfl⟩
 obtain ⟨S,hS⟩: ∃T:Nat,T=(-t).toNat:=⟨_,rfl⟩
 obtain ⟨X,hX⟩: ∃T:Nat,T=x.toNat:=⟨_,rfl⟩
 obtain ⟨Y,hY⟩: ∃T:Nat,T=(-x).toNat:=⟨_,rfl⟩
 have EA:dA D*tnN t=M*10^T*2^X:=by unfold dA tnN;rw [←hM,←hx,←hX,←hT,Nat.mul_right_comm]
 have EB:dB D*tnN (-t)=10^S*2^Y:=by unfold dB tnN;rw [←hx,←hY,←hS,Nat.mul_comm]
 rw [EA,EB]
 rw [←hM] at hN hl ⊢
 rw [←hx,←hneg]
 rw [←hx] at he
 have m1:max t 0=(T:Int):=by omega
 have m2:max (-t) 0=(S:Int):=by omega
 have m3:max x 0=(X:Int):=by omega
 have m4:max (-x) 0=(Y:Int):=by omega
 clear EA EB hM hx hneg
 have lT:=limbs_ten T (by omega)
 have lS:=limbs_ten S (by omega)
 have lMT:=limbs_len_mul M (10^T) 1000 3002 hl lT
 have P1:=hid (fun w=>pow10_any T (by omega) w)
 have P2:=hid (fun w=>pow10_any S (by omega) w)
 have TI:=hid (fun b d w h0 h1=>times_any am b cm d M (10^T) w h0 h1 (by omega) (by omega))
 have L1:=hid (fun b d w h0=>leftN_any b d (M*10^T) X w h0 (by omega) (by omega))
 have L2:=hid (fun b d w h0=>leftN_any b d (10^S) Y w h0 (by omega) (by omega))
 have HN:=hid hN
 clear hN lT lS lMT hT hS hX hY
 have zQ:QL 67 (w.alloc (.cells #[.bool neg,.slice am (limbs M).length cm,.int .i64 x] 67)) w.heap.size neg (.slice am (limbs M).length cm) x:=QL.made rfl
 have yb0:=below_alloc w (.cells #[.bool neg,.slice am (limbs M).length cm,.int .i64 x] 67)
 go_enter Tryz.func182,Tryz.ntmps182
 go_upto_region 1 with fail
 refine wp_worldZ (fun WW=>Below w.heap.size w WW∧QL 67 WW w.heap.size neg (.slice am (limbs M).length cm) x∧Ns .u32 WW am cm (limbs M)) ⟨yb0,zQ,HN.out.below yb0⟩ ?_
 intro W1 ⟨yb1,zQ1,hN1⟩
 obtain ⟨g2,hg2⟩: ∃g,g=w.heap.size:=⟨_,rfl⟩
 rw [←hg2] at zQ1
 rw [←hg2]
 clear hg2 zQ yb0 HN
 refine wp_region_grow 23 [5,6,7,8,9,10,11,12,13,14,15,16,17,18,19,20,21,22,23,24,25,26,4] [Fact.is (.agg #[.bool neg,.slice am (limbs M).length cm,.int .i64 x]),Fact.is (.pointer (some ⟨g2,1,none⟩)),Fact.is (.slice am (limbs M).length cm),Fact.is (.int .i64 t),Fact.is (.int .i64 (T:Int)),Fact.li (10^T),Fact.li (M*10^T),Fact.is (.pointer (some ⟨g2,2,none⟩)),Fact.is (.int .i64 x),Fact.is (.int .i64 (X:Int)),Fact.li (M*10^T*2^X),Fact.is (.int .i64 t),Fact.is (.int .i64 (-t)),Fact.is (.int .i64 (S:Int)),Fact.li (10^S),Fact.is (.pointer (some ⟨g2,2,none⟩)),Fact.is (.int .i64 x),Fact.is (.int .i64 (-x)),Fact.is (.int .i64 (Y:Int)),Fact.li (10^S*2^Y),Fact.rtv neg (.slice am (limbs M).length cm) x (M*10^T*2^X) (10^S*2^Y),Fact.rat neg (M*10^T*2^X) (10^S*2^Y),Fact.rat neg (M*10^T*2^X) (10^S*2^Y)] (by kernel_rfl) (by kernel_rfl) ⟨?o0,?o1,?o2,?o3,?o4,?o5,?o6,?o7,?o8,?o9,?o10,?o11,?o12,?o13,?o14,?o15,?o16,?o17,?o18,?o19,?o20,?o21,?o22,trivial⟩ ?after
 case o0=>(refine oQ rfl ?_;intro ρ w1 R hcon hfn hρ hb hp hR;have e2:ρ (.tmp 2)=.pointer (some ⟨g2,0,none⟩):=hρ.tmp 2 rfl;obtain ⟨⟨j0,j1,-⟩,j2,-⟩:=zQ1.below hb;clear hρ hp;unfold OpRun;go_simp;exact hR _ _ (Below.refl _ _) rfl)
 case o1=>(refine oQ rfl ?_;intro ρ w1 R hcon hfn hρ hb hp hR;have e2:ρ (.tmp 2)=.pointer (some ⟨g2,0,none⟩):=hρ.tmp 2 rfl;clear hρ hp;unfold OpRun;go_simp;exact hR _ _ (Below.refl _ _) rfl)
 case o2=>(refine oQ rfl ?_;intro ρ w1 R hcon hfn hρ hb hp hR;have e6:ρ (.tmp 6)=_:=hp 1 6 rfl rfl;obtain ⟨⟨j0,j1,-⟩,j2,-⟩:=zQ1.below hb;clear hρ hp;unfold OpRun;go_simp;exact hR _ _ (Below.refl _ _) rfl)
 case o3=>(refine oQ rfl ?_;intro ρ w1 R hcon hfn hρ hb hp hR;have e1:ρ (.tmp 1)=.int .i64 t:=hρ.tmp 1 rfl;clear hρ hp;unfold OpRun;go_simp;exact hR _ _ (Below.refl _ _) rfl)
 case o4=>(refine oQ rfl ?_;intro ρ w1 R hcon hfn hρ hb hp hR;have e8:ρ (.tmp 8)=_:=hp 3 8 rfl rfl;clear hρ hp;unfold OpRun;go_simp;exact hR _ _ (Below.refl _ _) rfl)
 case o5=>(refine oQ rfl ?_;intro ρ w1 R hcon hfn hρ hb hp hR;have e9:ρ (.tmp 9)=_:=hp 4 9 rfl rfl;clear hρ hp;unfold OpRun;go_simp;(refine (P1.out _).mono ?_;rintro e wn ⟨b9,d9,rfl,hn9,hbn⟩;exact ⟨_,rfl,hR _ _ hbn ⟨b9,d9,rfl,hn9⟩⟩))
 case o6=>(refine oQ rfl ?_;intro ρ w1 R hcon hfn hρ hb hp hR;have e7:ρ (.tmp 7)=_:=hp 2 7 rfl rfl;have f10:=hp 5 10 rfl rfl;obtain ⟨b10,d10,e10,hn10⟩:=f10;clear hρ hp;unfold OpRun;go_simp;(skip;refine (TI.out _ _ _ (hN1.below hb) hn10).mono ?_;rintro e wn ⟨b9,rfl,hn9,hbn⟩;exact ⟨_,rfl,hR _ _ hbn ⟨b9,_,rfl,hn9⟩⟩))
 case o7=>(refine oQ rfl ?_;intro ρ w1 R hcon hfn hρ hb hp hR;have e2:ρ (.tmp 2)=.pointer (some ⟨g2,0,none⟩):=hρ.tmp 2 rfl;clear hρ hp;unfold OpRun;go_simp;exact hR _ _ (Below.refl _ _) rfl)
 case o8=>(refine oQ rfl ?_;intro ρ w1 R hcon hfn hρ hb hp hR;have e12:ρ (.tmp 12)=_:=hp 7 12 rfl rfl;obtain ⟨⟨j0,j1,-⟩,j2,-⟩:=zQ1.below hb;clear hρ hp;unfold OpRun;go_simp;exact hR _ _ (Below.refl _ _) rfl)
 case o9=>(refine oQ rfl ?_;intro ρ w1 R hcon hfn hρ hb hp hR;have e13:ρ (.tmp 13)=_:=hp 8 13 rfl rfl;clear hρ hp;unfold OpRun;go_simp;exact hR _ _ (Below.refl _ _) rfl)
 case o10=>(refine oQ rfl ?_;intro ρ w1 R hcon hfn hρ hb hp hR;have f11:=hp 6 11 rfl rfl;have e14:ρ (.tmp 14)=_:=hp 9 14 rfl rfl;obtain ⟨b11,d11,e11,hn11⟩:=f11;clear hρ hp;unfold OpRun;go_simp;(skip;refine (L1.out _ _ _ hn11).mono ?_;rintro e wn ⟨b9,rfl,hn9,hbn⟩;exact ⟨_,rfl,hR _ _ hbn ⟨b9,_,rfl,hn9⟩⟩))
 case o11=>(refine oQ rfl ?_;intro ρ w1 R hcon hfn hρ hb hp hR;have e1:ρ (.tmp 1)=.int .i64 t:=hρ.tmp 1 rfl;clear hρ hp;unfold OpRun;go_simp;exact hR _ _ (Below.refl _ _) rfl)
 case o12=>(refine oQ rfl ?_;intro ρ w1 R hcon hfn hρ hb hp hR;have e16:ρ (.tmp 16)=_:=hp 11 16 rfl rfl;have hwp:IntKind.i64.wrap (-t)= -t:=IntWalk.i64_in _ (by omega);clear hρ hp;unfold OpRun;go_simp;exact hR _ _ (Below.refl _ _) rfl)
 case o13=>(refine oQ rfl ?_;intro ρ w1 R hcon hfn hρ hb hp hR;have e17:ρ (.tmp 17)=_:=hp 12 17 rfl rfl;clear hρ hp;unfold OpRun;go_simp;exact hR _ _ (Below.refl _ _) rfl)
 case o14=>(refine oQ rfl ?_;intro ρ w1 R hcon hfn hρ hb hp hR;have e18:ρ (.tmp 18)=_:=hp 13 18 rfl rfl;clear hρ hp;unfold OpRun;go_simp;(refine (P2.out _).mono ?_;rintro e wn ⟨b9,d9,rfl,hn9,hbn⟩;exact ⟨_,rfl,hR _ _ hbn ⟨b9,d9,rfl,hn9⟩⟩))
 case o15=>(refine oQ rfl ?_;intro ρ w1 R hcon hfn hρ hb hp hR;have e2:ρ (.tmp 2)=.pointer (some ⟨g2,0,none⟩):=hρ.tmp 2 rfl;clear hρ hp;unfold OpRun;go_simp;exact hR _ _ (Below.refl _ _) rfl)
 case o16=>(refine oQ rfl ?_;intro ρ w1 R hcon hfn hρ hb hp hR;have e20:ρ (.tmp 20)=_:=hp 15 20 rfl rfl;obtain ⟨⟨j0,j1,-⟩,j2,-⟩:=zQ1.below hb;clear hρ hp;unfold OpRun;go_simp;exact hR _ _ (Below.refl _ _) rfl)
 case o17=>(refine oQ rfl ?_;intro ρ w1 R hcon hfn hρ hb hp hR;have e21:ρ (.tmp 21)=_:=hp 16 21 rfl rfl;have hwp:IntKind.i64.wrap (-x)= -x:=IntWalk.i64_in _ (by omega);clear hρ hp;unfold OpRun;go_simp;exact hR _ _ (Below.refl _ _) rfl)
 case o18=>(refine oQ rfl ?_;intro ρ w1 R hcon hfn hρ hb hp hR;have e22:ρ (.tmp 22)=_:=hp 17 22 rfl rfl;clear hρ hp;unfold OpRun;go_simp;exact hR _ _ (Below.refl _ _) rfl)
 case o19=>(refine oQ rfl ?_;intro ρ w1 R hcon hfn hρ hb hp hR;have f19:=hp 14 19 rfl rfl;have e23:ρ (.tmp 23)=_:=hp 18 23 rfl rfl;obtain ⟨b19,d19,e19,hn19⟩:=f19;clear hρ hp;unfold OpRun;go_simp;(skip;refine (L2.out _ _ _ hn19).mono ?_;rintro e wn ⟨b9,rfl,hn9,hbn⟩;exact ⟨_,rfl,hR _ _ hbn ⟨b9,_,rfl,hn9⟩⟩))
 case o20=>(refine oQ rfl ?_;intro ρ w1 R hcon hfn hρ hb hp hR;have e5:ρ (.tmp 5)=_:=hp 0 5 rfl rfl;have f15:=hp 10 15 rfl rfl;have f24:=hp 19 24 rfl rfl;obtain ⟨b15,d15,e15,hn15⟩:=f15;obtain ⟨b24,d24,e24,hn24⟩:=f24;clear hρ hp;unfold OpRun;go_simp;exact hR _ _ (Below.refl _ _) ⟨b15,d15,b24,d24,rfl,hn15,hn24⟩)
 case o21=>(refine oQ rfl ?_;intro ρ w1 R hcon hfn hρ hb hp hR;have f25:=hp 20 25 rfl rfl;obtain ⟨b15,d15,b24,d24,e25,hn15,hn24⟩:=f25;clear hρ hp;unfold OpRun;go_simp;exact hR _ _ (below_alloc _ _) ⟨_,rfl,rat_made _ _ _ _ _ _ _ _ _ _ _ hn15 hn24⟩)
 case o22=>(refine oQ rfl ?_;intro ρ w1 R hcon hfn hρ hb hp hR;have f26:=hp 21 26 rfl rfl;clear hρ hp;unfold OpRun;go_simp;exact hR _ _ (Below.refl _ _) f26)
 case after=>
  intro u wn hb hf
  have f4:=hf 22 4 (by omega) rfl
  clear hf
  simp only [putAll,Act.put,List.setIfInBounds_toArray,List.set_cons_zero,List.set_cons_succ,List.drop_succ_cons,List.drop_zero,List.drop_nil]
  obtain ⟨g4,e4,hr4⟩:=f4
  rw [e4]
  go_wp2_with fail
  go_ret
  exact ⟨g4,rfl,hr4,below_trans yb1 hb⟩
end Go.Proofs.YtfphmlmgjhebjaaGreatDoor
namespace Go.Ulp
open Go.RowKit
theorem limbs_short1 (A n:Nat) (hn:A≤32*n) (M:Nat) (h:M<2^A):(limbs M).length≤n:=
 (limbs_le_bits M n).2 (Nat.lt_of_lt_of_le h (Nat.pow_le_pow_right (by omega) hn))
def rdL (w:World) (v:Value):Nat:=
 match v with
 | .slice (some a) l _=>lval ((List.range l).map fun i=>(intOf ((w.cell? ⟨a.block,a.off+i,none⟩).getD undef)).toNat)
 |_=>0
theorem rdL_eq {w:World} {ao:Option Addr} {cap:Nat} {L:List Nat} (h:Ns .u32 w ao cap L):rdL w (.slice ao L.length cap)=lval L:=by
 obtain ⟨h1,h2,h3⟩:=h
 rcases Nat.eq_zero_or_pos L.length with hl|hl
 ·have:L= []:=List.length_eq_zero_iff.1 hl
  subst this
  cases ao<;>rfl
 ·obtain ⟨b,off,rfl,hc⟩:=h3 hl
  show lval ((List.range L.length).map _)=lval L
  congr 1
  refine List.ext_getElem (by simp) (fun i k1 k2=>?_)
  rw [List.getElem_map,List.getElem_range,hc i k2]
  show (lb L i).toNat=L[i]
  unfold lb
  rw [Int.toNat_natCast,List.getD_eq_getElem?_getD,List.getElem?_eq_getElem k2];rfl
end Go.Ulp
namespace Go.Proofs.YtfphmlmgjhebjaaGreatDoor
open Go.RowKit Go.Ulp
set_option maxHeartbeats 4000000
set_option maxRecDepth 100000
end Go.Proofs.YtfphmlmgjhebjaaGreatDoor
