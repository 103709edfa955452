/- TopSum: what the proof leans on, part 15 (Tx4 ShelfP Rp1). -/
import Derived.Shelf.Pu.ParseUintPublic10
import Derived.Ground.MpProg
import Derived.Test.YtfphmlmgjhebjaaGreatDoorProg
import Derived.Test.YtfphmlmgjhebjaaGreatDoorKTopSum6
import Derived.Test.YtfphmlmgjhebjaaGreatDoorKTopSum7
import Derived.Test.YtfphmlmgjhebjaaGreatDoorKTopSum9
import Derived.Test.YtfphmlmgjhebjaaGreatDoorKTopSum13
set_option linter.unusedVariables false
set_option linter.unusedSimpArgs false
namespace Go.Ulp
open Go.RowKit
theorem limbs_short2 (A n:Nat) (hn:A≤32*n) (M:Nat) (h:M<2^A):(limbs M).length≤n:=
 (limbs_le_bits M n).2 (Nat.lt_of_lt_of_le h (Nat.pow_le_pow_right (by omega) hn))
theorem limbs_ten (s:Nat) (h:s≤24002):(limbs (10^s)).length≤3002:=by
 refine limbs_short2 (4*s+1) 3002 (by omega) _ ?_
 rw [Nat.pow_succ,Nat.pow_mul]
 have h1:(10:Nat)^s≤(2^4)^s:=Nat.pow_le_pow_left (by decide) s
 have h2:0<(10:Nat)^s:=Nat.pow_pos (by omega)
 omega
def RtAt (w:World) (g:Nat) (neg:Bool) (a b:Nat):Prop:= ∃an cn bn dn,w.cell? ⟨g,0,none⟩=some (.bool neg)∧w.cell? ⟨g,3,none⟩=some (.slice an (limbs a).length cn)∧w.cell? ⟨g,4,none⟩=some (.slice bn (limbs b).length dn)∧Ns .u32 w an cn (limbs a)∧Ns .u32 w bn dn (limbs b)
theorem RtAt.below {w w':World} {g:Nat} {neg:Bool} {a b:Nat} (h:RtAt w g neg a b) (hb:Below w.heap.size w w'):RtAt w' g neg a b:=by
 obtain ⟨an,cn,bn,dn,h1,h2,h3,h4,h5⟩:=h
 exact ⟨an,cn,bn,dn,(hb.cell (World.block_lt_of_cell? _ _ h1)).trans h1,(hb.cell (World.block_lt_of_cell? _ _ h2)).trans h2,(hb.cell (World.block_lt_of_cell? _ _ h3)).trans h3,h4.below hb,h5.below hb⟩
def Fact.nn2 (q r:Nat):Fact:=⟨fun v w=> ∃a c b d,v=.tuple #[.slice a (limbs q).length c,.slice b (limbs r).length d]∧Ns .u32 w a c (limbs q)∧Ns .u32 w b d (limbs r),fun _ _ _ h hb=>by
 obtain ⟨a,c,b,d,h1,h2,h3⟩:=h;exact ⟨a,c,b,d,h1,h2.below hb,h3.below hb⟩⟩
def RetNB (w:World) (n:Nat) (c:Bool) (e:Ending) (w':World):Prop:=
 ∃ao cap,e=.returned (.tuple #[.slice ao (limbs n).length cap,.bool c])∧Ns .u32 w' ao cap (limbs n)∧Below w.heap.size w w'
end Go.Ulp
namespace Go.Proofs.YtfphmlmgjhebjaaGreatDoor
open Go.RowKit Go.Ulp
set_option maxHeartbeats 1000000
set_option maxRecDepth 100000
theorem pow10_any (n:Nat) (hn:n≤12000) (w:World):Calls Tryz.prog 159 #[.int .u64 10,.int .i64 (n:Int)] w (RetNc w (10^n)):=by
 have O1:=hid (show ∀w,Calls Tryz.prog 95 #[.int .u64 1] w fun e w'=>RetN w 1 e w' from fun w=>natOf_any 1 (by omega) w)
 have O10:=hid (show ∀w,Calls Tryz.prog 95 #[.int .u64 10] w fun e w'=>RetN w 10 e w' from fun w=>natOf_any 10 (by omega) w)
 go_enter Tryz.func159,Tryz.ntmps159
 go_wp2_with (go_at_call 95;(first
  |((with_reducible refine (O1.out _).mono ?_);rintro en w1 ⟨a1,rfl,hN1,hb1⟩)
  |((with_reducible refine (O10.out _).mono ?_);rintro en w2 ⟨a2,rfl,hN2,hb2⟩)))
 go_loopw [1,5,6] (fun s1 s5 s6 wr=> ∃(k s t:Nat) (b5:Option Addr) (c5:Nat) (b6:Option Addr) (c6:Nat),s1=.int .i64 (k:Int)∧s5=.slice b5 (limbs (10^s)).length c5∧s6=.slice b6 (limbs (10^t)).length c6∧Ns .u32 wr b5 c5 (limbs (10^s))∧Ns .u32 wr b6 c6 (limbs (10^t))∧s+t*k=n∧t≤2*n+1∧k≤n∧Below w.heap.size w wr) (fun s1 _ _ _=>(intOf s1).toNat)
 case atStart=>exact ⟨n,0,1,a1,_,a2,_,rfl,rfl,rfl,hN1.below hb2,hN2,by omega,by omega,by omega,below_trans hb1 hb2⟩
 case round=>
  obtain ⟨k,s,t,b5,c5,b6,c6,rfl,rfl,rfl,h5,h6,hst,ht,hkn,hb⟩:=hrel
  by_cases hk:0<k
  ·have htn:t≤n:=by have:=Nat.le_mul_of_pos_right t hk;omega
   have ls:=limbs_ten s (by omega)
   have lt:=limbs_ten t (by omega)
   have TI:=hid (show ∀w,Ns .u32 w b5 c5 (limbs (10^s))→Ns .u32 w b6 c6 (limbs (10^t))→Calls Tryz.prog 157 #[.slice b5 (limbs (10^s)).length c5,.slice b6 (limbs (10^t)).length c6] w fun e w'=>RetN w (10^(s+t)) e w' from fun w h0 h1=>by
    rw [Nat.pow_add]
    exact times_any b5 b6 c5 c6 (10^s) (10^t) w h0 h1 (by omega) (by omega))
   have TX:=hid (show ∀w,Ns .u32 w b6 c6 (limbs (10^t))→Calls Tryz.prog 157 #[.slice b6 (limbs (10^t)).length c6,.slice b6 (limbs (10^t)).length c6] w fun e w'=>RetN w (10^(t+t)) e w' from fun w h0=>by
    rw [Nat.pow_add]
    exact times_any b6 b6 c6 c6 (10^t) (10^t) w h0 h0 (by omega) (by omega))
   have H5:=hid h5
   have H6:=hid h6
   have HS:=hid (show (t+t)*(k/2)=t*(2*(k/2)) by rw [←Nat.two_mul,Nat.mul_comm 2 t,Nat.mul_assoc])
   have HO:=hid (show k%2=1→s+t+(t+t)*(k/2)=n from fun h=>by
    have h3:t*k=t*(2*(k/2))+t:=by
     have h4:t*k=t*(2*(k/2)+1):=congrArg (t * ·) (by omega)
     rw [h4];exact Nat.mul_succ _ _
    have:=HS.out
    omega)
   have HE:=hid (show ¬k%2=1→s+(t+t)*(k/2)=n from fun h=>by
    have h4:t*k=t*(2*(k/2)):=congrArg (t * ·) (by omega)
    have:=HS.out
    omega)
   clear ls lt h5 h6 hst
   by_cases ho:k%2=1
   ·have ho2:(k:Int)%2=1:=by omega
    go_wp2_with (go_at_call 157;(first
     |((with_reducible refine (TI.out _ H5.out H6.out).mono ?_);rintro en w3 ⟨a3,rfl,hN3,hb3⟩)
     |((with_reducible refine (TX.out _ (H6.out.below hb3)).mono ?_);rintro en w4 ⟨a4,rfl,hN4,hb4⟩)))
    go_roundw
    case rel=>exact ⟨k/2,s+t,t+t,a3,_,a4,_,by go_num,rfl,rfl,hN3.below hb4,hN4,HO.out ho,by omega,by omega,below_trans (below_trans hb hb3) hb4⟩
    case measure=>simp [intOf];omega
   ·have ho2:(k:Int)%2=0:=by omega
    clear TI
    go_wp2_with (go_at_call 157;(with_reducible refine (TX.out _ H6.out).mono ?_);rintro en w4 ⟨a4,rfl,hN4,hb4⟩)
    go_roundw
    case rel=>exact ⟨k/2,s,t+t,b5,_,a4,_,by go_num,rfl,rfl,H5.out.below hb4,hN4,HE.out ho,by omega,by omega,below_trans hb hb4⟩
    case measure=>simp [intOf];omega
  ·have hk0:k=0:=by omega
   subst hk0
   have e:s=n:=by omega
   subst e
   have H5:=hid h5
   clear h5 h6 hst
   go_wp2_with fail
   go_ret
   exact ⟨b5,c5,rfl,H5.out,hb⟩
theorem ratioRound_any (g:Nat) (neg:Bool) (a b:Nat) (mode:Int) (w:World) (h:RtAt w g neg a b) (ha:(limbs a).length≤1000000) (hb:0<b) (hb2:(limbs b).length≤1000000):
 Calls Tryz.prog 183 #[.pointer (some ⟨g,0,none⟩),.int .i64 mode] w (RetNB w (rtN neg a b mode) (rtC a b)):=by
 obtain ⟨an,cn,bn,dn,k0,k3,k4,hN0,hN1⟩:=h
 obtain ⟨q,hq⟩: ∃q,q=a/b:=⟨_,rfl⟩
 obtain ⟨r,hr⟩: ∃r,r=a%b:=⟨_,rfl⟩
 have OV:=hid (fun w h0 h1=>over_any an bn cn dn a b w h0 h1 ha hb)
 have hql:(limbs q).length≤(limbs a).length:=limbs_len_mono (by rw [hq];exact Nat.div_le_self _ _)
 have hrl:(limbs r).length≤(limbs b).length:=limbs_len_mono (by rw [hr];exact Nat.le_of_lt (Nat.mod_lt _ hb))
 obtain ⟨half,hhalf⟩: ∃x,x=cmpI ((2*r:Nat):Int) (b:Int):=⟨_,rfl⟩
 obtain ⟨up,hup⟩: ∃x,x=upN neg (decide (q%2=1)) half mode:=⟨_,rfl⟩
 have HN:rtN neg a b mode=if r≠0∧up=true then q+1 else q:=by unfold rtN;rw [←hq,←hr,←hhalf,←hup]
 have HC:rtC a b=decide (r≠0):=by unfold rtC;rw [←hr]
 rw [HN,HC]
 rw [←hq,←hr] at OV
 obtain ⟨NN,hNN⟩: ∃N,N=if r≠0∧up=true then q+1 else q:=⟨_,rfl⟩
 obtain ⟨CC,hCC⟩: ∃C,C=decide (r≠0):=⟨_,rfl⟩
 rw [←hNN,←hCC]
 have HNN:=hid hNN
 have HCC:=hid hCC
 clear hNN hCC
 have LE:=hid (show ∀a c w,Ns .u32 w a c (limbs r)→Calls Tryz.prog 172 #[.slice a (limbs r).length c,.int .i64 1] w fun e w'=>RetN w (2*r) e w' from fun a c w k=>by
  have h9:=leftN_any a c r 1 w k (by omega) (by omega)
  rw [Nat.pow_one,Nat.mul_comm] at h9
  exact h9)
 have CM:=hid (show ∀x c w,Ns .u32 w x c (limbs (2*r))→Ns .u32 w bn dn (limbs b)→Calls Tryz.prog 210 #[.slice x (limbs (2*r)).length c,.slice bn (limbs b).length dn] w fun e w'=>e=.returned (.int .i64 half)∧Below w.heap.size w w' from fun x c w k0 k1=>by
  have h9:=compare_any x bn c dn (2*r) b w k0 k1
  rw [←hhalf] at h9
  exact h9.mono fun e w' ⟨h1,nq,h2⟩=>⟨h1,by rw [h2];exact below_drewN (Below.refl _ _) nq⟩)
 have PL:=hid (show ∀a b c d w,Ns .u32 w a c (limbs q)→Ns .u32 w b d (limbs 1)→Calls Tryz.prog 163 #[.slice a (limbs q).length c,.slice b (limbs 1).length d] w fun e w'=>RetN w (q+1) e w' from fun a b c d w k0 k1=>plus_any a b c d q 1 w k0 k1 (by omega) (by
  have:(limbs 1).length≤1:=(digs_len_le 4294967296 (by omega) 1 1).2 (by omega)
  omega))
 have OF:=hid (show ∀w,Calls Tryz.prog 95 #[.int .u64 1] w fun e w'=>RetN w 1 e w' from fun w=>natOf_any 1 (by omega) w)
 have UP:=hid (fun od w (h:od=decide (q%2=1))=>show Calls Tryz.prog 214 #[.bool neg,.bool od,.int .i64 half,.int .i64 mode] w fun e w'=>e=.returned (.bool up)∧w=w' from by subst h;rw [hup];exact up_any _ _ _ _ w)
 have N0:=hid hN0
 have N1:=hid hN1
 have hcn:=hN0.1
 have hcn2:=hN0.2.1
 have hdn:=hN1.1
 have hdn2:=hN1.2.1
 unfold maxLen at hcn2 hdn2
 clear hN0 hN1 HN HC hup hhalf hq hr ha hb hb2 hql hrl
 go_enter Tryz.func183,Tryz.ntmps183
 go_wp2_with fail
 refine wp_region_grow 14 [10,11,12,13,14,15,16,17,18,9,19,20,6,7] [Fact.is (.pointer (some ⟨g,0,none⟩)),Fact.is (.pointer (some ⟨g,0,none⟩)),Fact.is (.pointer (some ⟨g,3,none⟩)),Fact.is (.slice an (limbs a).length cn),Fact.is (.pointer (some ⟨g,0,none⟩)),Fact.is (.pointer (some ⟨g,0,none⟩)),Fact.is (.pointer (some ⟨g,4,none⟩)),Fact.is (.slice bn (limbs b).length dn),Fact.nn2 q r,Fact.nn2 q r,Fact.li q,Fact.li r,Fact.li q,Fact.li r] (by kernel_rfl) (by kernel_rfl) ⟨?o0,?o1,?o2,?o3,?o4,?o5,?o6,?o7,?o8,?o9,?o10,?o11,?o12,?o13,trivial⟩ ?after
 case o0=>(refine oQ rfl ?_;intro ρ w1 R hcon hfn hρ hb hp hR;have e0:ρ (.tmp 0)=.pointer (some ⟨g,0,none⟩):=hρ.tmp 0 rfl;clear hρ hp;unfold OpRun;go_simp;exact hR _ _ (Below.refl _ _) rfl)
 case o1=>(refine oQ rfl ?_;intro ρ w1 R hcon hfn hρ hb hp hR;have e10:ρ (.tmp 10)=_:=hp 0 10 rfl rfl;clear hρ hp;unfold OpRun;go_simp;exact hR _ _ (Below.refl _ _) rfl)
 case o2=>(refine oQ rfl ?_;intro ρ w1 R hcon hfn hρ hb hp hR;have e11:ρ (.tmp 11)=_:=hp 1 11 rfl rfl;clear hρ hp;unfold OpRun;go_simp;exact hR _ _ (Below.refl _ _) rfl)
 case o3=>(refine oQ rfl ?_;intro ρ w1 R hcon hfn hρ hb hp hR;have e12:ρ (.tmp 12)=_:=hp 2 12 rfl rfl;have j3:=(hb.cell (World.block_lt_of_cell? _ _ k3)).trans k3;clear hρ hp;unfold OpRun;go_simp;exact hR _ _ (Below.refl _ _) rfl)
 case o4=>(refine oQ rfl ?_;intro ρ w1 R hcon hfn hρ hb hp hR;have e0:ρ (.tmp 0)=.pointer (some ⟨g,0,none⟩):=hρ.tmp 0 rfl;clear hρ hp;unfold OpRun;go_simp;exact hR _ _ (Below.refl _ _) rfl)
 case o5=>(refine oQ rfl ?_;intro ρ w1 R hcon hfn hρ hb hp hR;have e14:ρ (.tmp 14)=_:=hp 4 14 rfl rfl;clear hρ hp;unfold OpRun;go_simp;exact hR _ _ (Below.refl _ _) rfl)
 case o6=>(refine oQ rfl ?_;intro ρ w1 R hcon hfn hρ hb hp hR;have e15:ρ (.tmp 15)=_:=hp 5 15 rfl rfl;clear hρ hp;unfold OpRun;go_simp;exact hR _ _ (Below.refl _ _) rfl)
 case o7=>(refine oQ rfl ?_;intro ρ w1 R hcon hfn hρ hb hp hR;have e16:ρ (.tmp 16)=_:=hp 6 16 rfl rfl;have j4:=(hb.cell (World.block_lt_of_cell? _ _ k4)).trans k4;clear hρ hp;unfold OpRun;go_simp;exact hR _ _ (Below.refl _ _) rfl)
 case o8=>(refine oQ rfl ?_;intro ρ w1 R hcon hfn hρ hb hp hR;have e13:ρ (.tmp 13)=_:=hp 3 13 rfl rfl;have e17:ρ (.tmp 17)=_:=hp 7 17 rfl rfl;clear hρ hp;unfold OpRun;go_simp;(refine (OV.out _ (N0.out.below hb) (N1.out.below hb)).mono ?_;rintro e wn ⟨aq,cq,ar,cr,rfl,hq9,hr9,hbn⟩;exact ⟨_,rfl,hR _ _ hbn ⟨aq,cq,ar,cr,rfl,hq9,hr9⟩⟩))
 case o9=>(refine oQ rfl ?_;intro ρ w1 R hcon hfn hρ hb hp hR;have f18:=hp 8 18 rfl rfl;clear hρ hp;unfold OpRun;go_simp;exact hR _ _ (Below.refl _ _) f18)
 case o10=>(refine oQ rfl ?_;intro ρ w1 R hcon hfn hρ hb hp hR;have f9:=hp 9 9 rfl rfl;clear hρ hp;unfold OpRun;go_simp;(obtain ⟨aq,cq,ar,cr,e9,hq9,hr9⟩:=f9;rw [e9];exact hR _ _ (Below.refl _ _) ⟨_,_,rfl,hq9⟩))
 case o11=>(refine oQ rfl ?_;intro ρ w1 R hcon hfn hρ hb hp hR;have f9:=hp 9 9 rfl rfl;clear hρ hp;unfold OpRun;go_simp;(obtain ⟨aq,cq,ar,cr,e9,hq9,hr9⟩:=f9;rw [e9];exact hR _ _ (Below.refl _ _) ⟨_,_,rfl,hr9⟩))
 case o12=>(refine oQ rfl ?_;intro ρ w1 R hcon hfn hρ hb hp hR;have f19:=hp 10 19 rfl rfl;clear hρ hp;unfold OpRun;go_simp;exact hR _ _ (Below.refl _ _) f19)
 case o13=>(refine oQ rfl ?_;intro ρ w1 R hcon hfn hρ hb hp hR;have f20:=hp 11 20 rfl rfl;clear hρ hp;unfold OpRun;go_simp;exact hR _ _ (Below.refl _ _) f20)
 case after=>
  intro u wn hb hf
  have f6:=hf 12 6 (by omega) rfl
  have f7:=hf 13 7 (by omega) rfl
  clear hf
  simp only [putAll,Act.put,List.setIfInBounds_toArray,List.set_cons_zero,List.set_cons_succ,List.drop_succ_cons,List.drop_zero,List.drop_nil]
  obtain ⟨aq,cq,e6,hNq⟩:=f6
  obtain ⟨ar,cr,e7,hNr⟩:=f7
  rw [e6,e7]
  clear e6 e7
  have hcq:=hNq.1
  have hcq2:=hNq.2.1
  have hcr:=hNr.1
  have hcr2:=hNr.2.1
  unfold maxLen at hcq2 hcr2
  have NQ:=hid hNq
  have NR:=hid hNr
  have yb1:=hb
  clear hb
  obtain ⟨w1,hw1⟩: ∃W,W=wn:=⟨_,rfl⟩
  subst hw1
  have K0:=hid ((yb1.cell (World.block_lt_of_cell? _ _ k0)).trans k0)
  have K4:=hid ((yb1.cell (World.block_lt_of_cell? _ _ k4)).trans k4)
  have N1':=hid (N1.out.below yb1)
  clear N0 N1 k0 k3 k4 OV
  by_cases hr0:r=0
  ·have hl0:(limbs r).length=0:=by rw [hr0];rfl
   have HC:CC=false:=HCC.out.trans (decide_eq_false (fun h=>h hr0))
   have HQ:NN=q:=HNN.out.trans (if_neg (fun h=>h.1 hr0))
   clear HNN HCC
   subst HC
   clear hr0
   have HQQ:=hid HQ
   clear HQ
   go_wp2_with fail
   go_ret2
   rw [HQQ.out]
   exact ⟨aq,cq,rfl,NQ.out,yb1⟩
  ·have hl0:0<(limbs r).length:=by
    rcases Nat.eq_zero_or_pos (limbs r).length with h9|h9
    ·have:=(limbs_nil r).1 (List.length_eq_zero_iff.1 h9);omega
    ·exact h9
   have HC:CC=true:=HCC.out.trans (decide_eq_true hr0)
   have HQ:=hid (show (up=true→NN=q+1)∧(up=false→NN=q) from ⟨fun hu=>HNN.out.trans (if_pos ⟨hr0,hu⟩),fun hu=>HNN.out.trans (if_neg (fun h=>by rw [hu] at h;exact absurd h.2 (by simp)))⟩)
   have hne:(((limbs r).length:Int)==0)=false:=beq_eq_false_iff_ne.2 (by omega)
   clear HNN HCC
   subst HC
   clear hr0
   go_upto_region 4 with fail
   go_cut [8] (fun s8 wx=>s8=.bool (decide (q%2=1))∧wx=w1)
   case first=>
    by_cases hq0:(limbs q).length=0
    ·have hqz:q=0:=(limbs_nil q).1 (List.length_eq_zero_iff.1 hq0)
     have HO:=hid (show decide (q%2=1)=false by rw [hqz];rfl)
     have hq1:decide (0<(limbs q).length)=false:=decide_eq_false (by omega)
     clear hqz hq0
     go_wp2_with fail
     go_meet
     exact ⟨by rw [HO.out],rfl⟩
    ·obtain ⟨b1,o1,rfl,hc1⟩:=NQ.out.2.2 (by omega)
     obtain ⟨x,hx⟩: ∃x,x=(limbs q).getD 0 0:=⟨_,rfl⟩
     have k1:w1.cell? ⟨b1,o1,none⟩=some (.int .u32 (x:Int)):=by have:=hc1 0 (by omega);rw [hx];exact this
     have hxo:x%2=q%2:=by rw [hx];exact limbs_odd q (by omega)
     have hx2:x<4294967296:=by rw [hx];exact (limbs_lim q).getD (by omega) 0
     have hpos:0<(limbs q).length:=by omega
     have HO:=hid (show ((x:Int)%2==1)=decide (q%2=1) by rw [Bool.eq_iff_iff,beq_iff_eq,decide_eq_true_eq];omega)
     clear hc1 hx hxo hq0
     go_wp2_with fail
     go_meet
     exact ⟨by rw [HO.out],rfl⟩
   case rest=>
    obtain ⟨rfl,hwc⟩:=hcut
    subst hwc
    have UPo:=hid (fun w=>UP.out (decide (q%2=1)) w rfl)
    generalize decide (q%2=1)=od at *
    go_upto_region 5 with fail
    refine wp_region_grow 15 [35,36,37,38,39,40,41,42,43,44,45,46,47,48,49] [Fact.is (.pointer (some ⟨g,0,none⟩)),Fact.is (.pointer (some ⟨g,0,none⟩)),Fact.is (.pointer (some ⟨g,0,none⟩)),Fact.is (.pointer (some ⟨g,0,none⟩)),Fact.is (.bool neg),Fact.is (.bool od),Fact.is (.slice ar (limbs r).length cr),Fact.li (2*r),Fact.is (.pointer (some ⟨g,0,none⟩)),Fact.is (.pointer (some ⟨g,0,none⟩)),Fact.is (.pointer (some ⟨g,4,none⟩)),Fact.is (.slice bn (limbs b).length dn),Fact.is (.int .i64 half),Fact.is (.int .i64 mode),Fact.is (.bool up)] (by kernel_rfl) (by kernel_rfl) ⟨?o0,?o1,?o2,?o3,?o4,?o5,?o6,?o7,?o8,?o9,?o10,?o11,?o12,?o13,?o14,trivial⟩ ?after
    case o0=>(refine oQ rfl ?_;intro ρ w1 R hcon hfn hρ hb hp hR;have e0:ρ (.tmp 0)=.pointer (some ⟨g,0,none⟩):=hρ.tmp 0 rfl;clear hρ hp;unfold OpRun;go_simp;exact hR _ _ (Below.refl _ _) rfl)
    case o1=>(refine oQ rfl ?_;intro ρ w1 R hcon hfn hρ hb hp hR;have e35:ρ (.tmp 35)=_:=hp 0 35 rfl rfl;clear hρ hp;unfold OpRun;go_simp;exact hR _ _ (Below.refl _ _) rfl)
    case o2=>(refine oQ rfl ?_;intro ρ w1 R hcon hfn hρ hb hp hR;have e36:ρ (.tmp 36)=_:=hp 1 36 rfl rfl;clear hρ hp;unfold OpRun;go_simp;exact hR _ _ (Below.refl _ _) rfl)
    case o3=>(refine oQ rfl ?_;intro ρ w1 R hcon hfn hρ hb hp hR;have e37:ρ (.tmp 37)=_:=hp 2 37 rfl rfl;clear hρ hp;unfold OpRun;go_simp;exact hR _ _ (Below.refl _ _) rfl)
    case o4=>(refine oQ rfl ?_;intro ρ w1 R hcon hfn hρ hb hp hR;have e38:ρ (.tmp 38)=_:=hp 3 38 rfl rfl;have j0:=(hb.cell (World.block_lt_of_cell? _ _ K0.out)).trans K0.out;clear hρ hp;unfold OpRun;go_simp;exact hR _ _ (Below.refl _ _) rfl)
    case o5=>(refine oQ rfl ?_;intro ρ w1 R hcon hfn hρ hb hp hR;have e8:ρ (.tmp 8)=.bool od:=hρ.tmp 8 rfl;clear hρ hp;unfold OpRun;go_simp;exact hR _ _ (Below.refl _ _) rfl)
    case o6=>(refine oQ rfl ?_;intro ρ w1 R hcon hfn hρ hb hp hR;have e7:ρ (.tmp 7)=.slice ar (limbs r).length cr:=hρ.tmp 7 rfl;clear hρ hp;unfold OpRun;go_simp;exact hR _ _ (Below.refl _ _) rfl)
    case o7=>(refine oQ rfl ?_;intro ρ w1 R hcon hfn hρ hb hp hR;have e41:ρ (.tmp 41)=_:=hp 6 41 rfl rfl;clear hρ hp;unfold OpRun;go_simp;(refine (LE.out _ _ _ (NR.out.below hb)).mono ?_;rintro e wn ⟨a9,rfl,hn9,hbn⟩;exact ⟨_,rfl,hR _ _ hbn ⟨a9,_,rfl,hn9⟩⟩))
    case o8=>(refine oQ rfl ?_;intro ρ w1 R hcon hfn hρ hb hp hR;have e0:ρ (.tmp 0)=.pointer (some ⟨g,0,none⟩):=hρ.tmp 0 rfl;clear hρ hp;unfold OpRun;go_simp;exact hR _ _ (Below.refl _ _) rfl)
    case o9=>(refine oQ rfl ?_;intro ρ w1 R hcon hfn hρ hb hp hR;have e43:ρ (.tmp 43)=_:=hp 8 43 rfl rfl;clear hρ hp;unfold OpRun;go_simp;exact hR _ _ (Below.refl _ _) rfl)
    case o10=>(refine oQ rfl ?_;intro ρ w1 R hcon hfn hρ hb hp hR;have e44:ρ (.tmp 44)=_:=hp 9 44 rfl rfl;clear hρ hp;unfold OpRun;go_simp;exact hR _ _ (Below.refl _ _) rfl)
    case o11=>(refine oQ rfl ?_;intro ρ w1 R hcon hfn hρ hb hp hR;have e45:ρ (.tmp 45)=_:=hp 10 45 rfl rfl;have j4:=(hb.cell (World.block_lt_of_cell? _ _ K4.out)).trans K4.out;clear hρ hp;unfold OpRun;go_simp;exact hR _ _ (Below.refl _ _) rfl)
    case o12=>(refine oQ rfl ?_;intro ρ w1 R hcon hfn hρ hb hp hR;have f42:=hp 7 42 rfl rfl;have e46:ρ (.tmp 46)=_:=hp 11 46 rfl rfl;obtain ⟨a9,c9,e42,hn9⟩:=f42;clear hρ hp;unfold OpRun;go_simp;(refine (CM.out _ _ _ hn9 (N1'.out.below hb)).mono ?_;rintro e wn ⟨rfl,hbn⟩;exact ⟨_,rfl,hR _ _ hbn rfl⟩))
    case o13=>(refine oQ rfl ?_;intro ρ w1 R hcon hfn hρ hb hp hR;have e1:ρ (.tmp 1)=.int .i64 mode:=hρ.tmp 1 rfl;clear hρ hp;unfold OpRun;go_simp;exact hR _ _ (Below.refl _ _) rfl)
    case o14=>(refine oQ rfl ?_;intro ρ w1 R hcon hfn hρ hb hp hR;have e39:ρ (.tmp 39)=_:=hp 4 39 rfl rfl;have e40:ρ (.tmp 40)=_:=hp 5 40 rfl rfl;have e47:ρ (.tmp 47)=_:=hp 12 47 rfl rfl;have e48:ρ (.tmp 48)=_:=hp 13 48 rfl rfl;clear hρ hp;unfold OpRun;go_simp;(refine (UPo.out _).mono ?_;rintro e wn ⟨rfl,rfl⟩;exact ⟨_,rfl,hR _ _ (Below.refl _ _) rfl⟩))
    case after=>
     intro u wn hb hf
     have e49:u 49=_:=hf 14 49 (by omega) rfl
     clear hf
     simp only [putAll,Act.put,List.setIfInBounds_toArray,List.set_cons_zero,List.set_cons_succ,List.drop_succ_cons,List.drop_zero,List.drop_nil]
     rw [e49]
     have yb2:=below_trans yb1 hb
     have NQ2:=hid (NQ.out.below hb)
     clear hb yb1 K0 K4 LE CM UP UPo NR N1'
     cases up
     ·go_wp2_with fail
      go_ret2
      rw [HQ.out.2 (by first|rfl|trivial)]
      exact ⟨aq,cq,rfl,NQ2.out,yb2⟩
     ·go_wp2_with (first
       |(go_at_call 95;(with_reducible refine (OF.out _).mono ?_);rintro e w8 ⟨a8,rfl,hN8,hb8⟩)
       |(go_at_call 163;(with_reducible refine (PL.out _ _ _ _ _ (NQ2.out.below hb8) hN8).mono ?_);rintro e w9 ⟨a9,rfl,hN9,hb9⟩))
      go_ret2
      rw [HQ.out.1 (by first|rfl|trivial)]
      exact ⟨_,_,rfl,hN9,below_trans (below_trans yb2 hb8) hb9⟩
end Go.Proofs.YtfphmlmgjhebjaaGreatDoor
namespace Go.Proofs
open Go.Shelf
def Tryz.laysPu14_ren:Go.Shelf.Ren:=⟨fun|14=>171|16=>230|17=>229|19=>251|20=>252|21=>247|22=>248|23=>249|24=>250|25=>263|27=>168|26=>264|28=>227|29=>245|30=>259|31=>260|32=>261|33=>262|35=>266|34=>265|36=>267|37=>268|38=>269|39=>219|40=>270|n=>n,fun|9=>9|3=>3|22=>22|24=>166|25=>201|4=>4|34=>263|5=>5|36=>62|37=>105|0=>0|39=>266|21=>21|44=>278|47=>220|50=>290|48=>288|2=>2|52=>273|55=>275|59=>285|60=>181|20=>20|61=>286|65=>261|66=>291|67=>170|n=>n,fun|0=>2|1=>3|2=>6|3=>1|4=>7|n=>n⟩
theorem Tryz.laysPu14:LaysPu.n14 Tryz.prog Tryz.laysPu14_ren:= {
 mixed:=by kernel_rfl
 f14:=Tryz.func171.trans (congrArg some (by kernel_rfl))
 f16:=Tryz.func230.trans (congrArg some (by kernel_rfl))
 f17:=Tryz.func229.trans (congrArg some (by kernel_rfl))
 f19:=Tryz.func251.trans (congrArg some (by kernel_rfl))
 f20:=Tryz.func252.trans (congrArg some (by kernel_rfl))
 f21:=Tryz.func247.trans (congrArg some (by kernel_rfl))
 f22:=Tryz.func248.trans (congrArg some (by kernel_rfl))
 f23:=Tryz.func249.trans (congrArg some (by kernel_rfl))
 f24:=Tryz.func250.trans (congrArg some (by kernel_rfl))
 f25:=Tryz.func263.trans (congrArg some (by kernel_rfl))
 f26:=Tryz.func264.trans (congrArg some (by kernel_rfl))
 f27:=Tryz.func168.trans (congrArg some (by kernel_rfl))
 f28:=Tryz.func227.trans (congrArg some (by kernel_rfl))
 f29:=Tryz.func245.trans (congrArg some (by kernel_rfl))
 f30:=Tryz.func259.trans (congrArg some (by kernel_rfl))
 f31:=Tryz.func260.trans (congrArg some (by kernel_rfl))
 f32:=Tryz.func261.trans (congrArg some (by kernel_rfl))
 f33:=Tryz.func262.trans (congrArg some (by kernel_rfl))
 f34:=Tryz.func265.trans (congrArg some (by kernel_rfl))
 f35:=Tryz.func266.trans (congrArg some (by kernel_rfl))
 f36:=Tryz.func267.trans (congrArg some (by kernel_rfl))
 f37:=Tryz.func268.trans (congrArg some (by kernel_rfl))
 f38:=Tryz.func269.trans (congrArg some (by kernel_rfl))
 f39:=Tryz.func219.trans (congrArg some (by kernel_rfl))
 f40:=Tryz.func270.trans (congrArg some (by kernel_rfl))
 t0:=Tryz.underlying0
 a0:=Tryz.isAgg0
 z0:=Tryz.sizeOf0
 v0:=Tryz.zeroValue0
 i0:=by kernel_rfl
 t2:=Tryz.underlying2
 a2:=Tryz.isAgg2
 z2:=Tryz.sizeOf2
 v2:=Tryz.zeroValue2
 i2:=by kernel_rfl
 t3:=Tryz.underlying3
 a3:=Tryz.isAgg3
 z3:=Tryz.sizeOf3
 v3:=Tryz.zeroValue3
 i3:=by kernel_rfl
 t4:=Tryz.underlying4
 a4:=Tryz.isAgg4
 z4:=Tryz.sizeOf4
 v4:=Tryz.zeroValue4
 i4:=by kernel_rfl
 t5:=Tryz.underlying5
 a5:=Tryz.isAgg5
 z5:=Tryz.sizeOf5
 v5:=Tryz.zeroValue5
 i5:=by kernel_rfl
 t9:=Tryz.underlying9
 a9:=Tryz.isAgg9
 z9:=Tryz.sizeOf9
 v9:=Tryz.zeroValue9
 i9:=by kernel_rfl
 t20:=Tryz.underlying20
 a20:=Tryz.isAgg20
 z20:=Tryz.sizeOf20
 v20:=Tryz.zeroValue20
 i20:=by kernel_rfl
 t21:=Tryz.underlying21
 a21:=Tryz.isAgg21
 z21:=Tryz.sizeOf21
 v21:=Tryz.zeroValue21
 i21:=by kernel_rfl
 t22:=Tryz.underlying22
 a22:=Tryz.isAgg22
 z22:=Tryz.sizeOf22
 v22:=Tryz.zeroValue22
 i22:=by kernel_rfl
 t24:=Tryz.underlying166
 a24:=Tryz.isAgg166
 z24:=Tryz.sizeOf166
 v24:=Tryz.zeroValue166
 i24:=by kernel_rfl
 t25:=Tryz.underlying201
 a25:=Tryz.isAgg201
 z25:=Tryz.sizeOf201
 v25:=Tryz.zeroValue201
 i25:=by kernel_rfl
 t34:=Tryz.underlying263
 a34:=Tryz.isAgg263
 z34:=Tryz.sizeOf263
 v34:=Tryz.zeroValue263
 i34:=by kernel_rfl
 c34:=by kernel_rfl
 t36:=Tryz.underlying62
 a36:=Tryz.isAgg62
 z36:=Tryz.sizeOf62
 v36:=Tryz.zeroValue62
 i36:=by kernel_rfl
 t37:=Tryz.underlying105
 a37:=Tryz.isAgg105
 z37:=Tryz.sizeOf105
 v37:=Tryz.zeroValue105
 i37:=by kernel_rfl
 t39:=Tryz.underlying266
 a39:=Tryz.isAgg266
 z39:=Tryz.sizeOf266
 v39:=Tryz.zeroValue266
 i39:=by kernel_rfl
 t44:=Tryz.underlying278
 a44:=Tryz.isAgg278
 z44:=Tryz.sizeOf278
 v44:=Tryz.zeroValue278
 i44:=by kernel_rfl
 t47:=Tryz.underlying220
 a47:=Tryz.isAgg220
 z47:=Tryz.sizeOf220
 v47:=Tryz.zeroValue220
 i47:=by kernel_rfl
 t48:=Tryz.underlying288
 a48:=Tryz.isAgg288
 z48:=Tryz.sizeOf288
 v48:=Tryz.zeroValue288
 i48:=by kernel_rfl
 t50:=Tryz.underlying290
 a50:=Tryz.isAgg290
 z50:=Tryz.sizeOf290
 v50:=Tryz.zeroValue290
 i50:=by kernel_rfl
 t52:=Tryz.underlying273
 a52:=Tryz.isAgg273
 z52:=Tryz.sizeOf273
 v52:=Tryz.zeroValue273
 i52:=by kernel_rfl
 t55:=Tryz.underlying275
 a55:=Tryz.isAgg275
 z55:=Tryz.sizeOf275
 v55:=Tryz.zeroValue275
 i55:=by kernel_rfl
 t59:=Tryz.underlying285
 a59:=Tryz.isAgg285
 z59:=Tryz.sizeOf285
 v59:=Tryz.zeroValue285
 i59:=by kernel_rfl
 t60:=Tryz.underlying181
 a60:=Tryz.isAgg181
 z60:=Tryz.sizeOf181
 v60:=Tryz.zeroValue181
 i60:=by kernel_rfl
 t61:=Tryz.underlying286
 a61:=Tryz.isAgg286
 z61:=Tryz.sizeOf286
 t65:=Tryz.underlying261
 a65:=Tryz.isAgg261
 z65:=Tryz.sizeOf261
 v65:=Tryz.zeroValue261
 i65:=by kernel_rfl
 t66:=Tryz.underlying291
 a66:=Tryz.isAgg291
 z66:=Tryz.sizeOf291
 v66:=Tryz.zeroValue291
 i66:=by kernel_rfl
 t67:=Tryz.underlying170
 a67:=Tryz.isAgg170
 z67:=Tryz.sizeOf170
 v67:=Tryz.zeroValue170
 i67:=by kernel_rfl
 g0:=by kernel_rfl
 m0:=by kernel_rfl
 g1:=by kernel_rfl
 m1:=by kernel_rfl
 g2:=by kernel_rfl
 m2:=by kernel_rfl
 g3:=by kernel_rfl
 m3:=by kernel_rfl
 g4:=by kernel_rfl
 m4:=by kernel_rfl}
theorem Tryz.strconv_ParseUint (s:ByteArray) (hmax:s.size≤9223372036854775806) (u:Nat) (h:Lib.parseUintB 64 s.data.toList=.ok u) (w:World):
 Calls Tryz.prog 171 #[.string s,.int .i64 10,.int .i64 64] w fun e w'=>e=.returned (.tuple #[.int .u64 u,.nilIface])∧(w'=w∨w'=Lib.bytesWorld w 5 s):=Any.strconv_ParseUint_10_at64_ok Tryz.laysPu14 s hmax u h w
end Go.Proofs
namespace Go.Ulp
open Go.RowKit
theorem rvs_nat9 (a:Nat):rvs (a:Int)=(rvi a:Int):=by unfold rvs;rw [if_neg (by omega),Int.natAbs_natCast]
def rdC (K A B:Nat) (l:Int):Int:=cmpI (rvs l*(B:Int)) ((A:Int)*pw K)
def rdM (K A B:Nat) (l:Int):Int:=cmpI ((rvs l+rvs (l+1))*(B:Int)) (2*((A:Int)*pw K))
def rdU (K A B:Nat) (mode l:Int):Bool:=decide (mode=1∨(mode=0∧(rdM K A B l<0∨(rdM K A B l=0∧l%2=1)))∨(mode=4∧rdM K A B l≤0))
def rdA (K A B:Nat) (mode l:Int):Int×Bool:=if rdC K A B l=0 then (l,false) else if rdU K A B mode l=true then (l+1,true) else (l,true)
def swM (mode:Int):Int:=if mode=1 then 2 else if mode=2 then 1 else mode
theorem up_sw (odd:Bool) (half mode:Int) (m0:0≤mode) (m1:mode≤4):upN true odd half mode=upN false odd half (swM mode):=by
 unfold upN swM
 by_cases h1:mode=1
 ·subst h1;rfl
 by_cases h2:mode=2
 ·subst h2;rfl
 rw [if_neg h1,if_neg h2,if_neg h1,if_neg h2,if_neg h1,if_neg h2]
theorem over_sw (mode:Int) (m0:0≤mode) (m1:mode≤4):overA true mode=overA false (swM mode):=by
 have:mode=0∨mode=1∨mode=2∨mode=3∨mode=4:=by omega
 rcases this with h|h|h|h|h<;>subst h<;>rfl
theorem num_sw (M:Nat) (e mode:Int) (m0:0≤mode) (m1:mode≤4):numX true M e mode=numX false M e (swM mode)+9223372036854775808∧numC true M e mode=numC false M e (swM mode):=by
 have hc: ∀j,cutN true M j mode=cutN false M j (swM mode):=by
  intro j
  unfold cutN
  split
  ·rfl
  ·rw [up_sw _ _ mode m0 m1]
 have hr:numR true M e mode=numR false M e (swM mode):=by
  unfold numR;rw [hc]
 unfold numX numC
 rw [hr]
 refine ⟨?_,rfl⟩
 unfold capX
 rw [over_sw mode m0 m1]
 have s1:sgb true=9223372036854775808:=rfl
 have s0:sgb false=0:=rfl
 rw [s1,s0]
 split
 ·omega
 ·omega
def SameC (s:Nat) (V:Int) (K A B:Nat):Prop:=(∀r:Nat,(r:Int)≤9218868437227405312→cR s V r=rdC K A B r)∧(∀r:Nat,(r:Int)<9218868437227405312→cM s V r= -rdM K A B r)
theorem read_pos (M:Nat) (e mode:Int) (K A B s l:Nat) (m0:0≤mode) (m1:mode≤4) (hM:0<M) (hs:0≤e+1074+s) (SC:SameC s ((M*2^(e+1074+s).toNat:Nat):Int) K A B)
 (l1:(l:Int)<9218868437227405312) (l2:rdC K A B l≤0) (l3:(l:Int)+1=9218868437227405312∨0<rdC K A B ((l:Int)+1)):
 (numX false M e mode,numC false M e mode)=rdA K A B mode l:=by
 have a:=number_rnd false M e mode s m0 m1 (fun h=>rfl) hs
 obtain ⟨V,hV⟩: ∃V:Nat,V=M*2^(e+1074+s).toNat:=⟨_,rfl⟩
 rw [←hV] at a SC
 have hVp:0<V:=by rw [hV];exact Nat.mul_pos hM (Nat.two_pow_pos _)
 have cl:cR s (sg false (V:Int)) (l:Int)=rdC K A B l:=SC.1 l (by omega)
 have cl1:=SC.1 (l+1) (by omega)
 have cm:cM s (sg false (V:Int)) (l:Int)= -rdM K A B l:=SC.2 l l1
 rw [show ((l+1:Nat):Int)=(l:Int)+1 by omega] at cl1
 have low:IsLow (cR s (sg false (V:Int))) l:=⟨by omega,l1,.inr (by rw [cl];exact l2),by
  show (l:Int)+1=_∨0<cR s (V:Int) ((l:Int)+1)
  rw [cl1];exact l3⟩
 obtain ⟨l',lw,an⟩:=a
 have hl:=low_uniq lw low
 subst hl
 have hcz:cmpI (sg false (V:Int)) 0=1:=by
  show cmpI (V:Int) 0=1
  unfold cmpI;split
  ·omega
  ·split<;>omega
 rw [an,hcz]
 unfold ansR rdA
 rw [cl,cm,show decide ((1:Int)<0)=false from rfl,tell_pos _ (by omega),tell_pos _ (by omega),ranked_pos _ (by omega)]
 by_cases hz:rdC K A B l=0
 ·rw [if_pos ⟨by omega,hz⟩,if_pos hz]
 ·rw [if_neg (fun h=>hz h.2),if_neg hz]
  have hu:upR false mode (-rdM K A B l) ((l:Int)+1)=rdU K A B mode l:=by
   unfold upR rdU
   by_cases h0:rdM K A B l=0
   ·by_cases hm0:mode=0
    ·rw [if_pos ⟨by omega,hm0⟩,decide_eq_decide];omega
    ·rw [if_neg (fun h=>hm0 h.2)]
     by_cases hm4:mode=4
     ·rw [if_pos ⟨by omega,hm4⟩,eq_comm];exact decide_eq_true (by omega)
     ·rw [if_neg (fun h=>hm4 h.2),decide_eq_decide]
      simp only [Bool.false_eq_true,and_false,false_or]
      omega
   ·rw [if_neg (fun h=>h0 (by omega)),if_neg (fun h=>h0 (by omega)),decide_eq_decide]
    simp only [Bool.false_eq_true,and_false,false_or]
    omega
  rw [hu]
theorem read_sg (neg:Bool) (M:Nat) (e mode:Int) (K A B s l:Nat) (m0:0≤mode) (m1:mode≤4) (hM:0<M) (hs:0≤e+1074+s) (SC:SameC s ((M*2^(e+1074+s).toNat:Nat):Int) K A B)
 (l1:(l:Int)<9218868437227405312) (l2:rdC K A B l≤0) (l3:(l:Int)+1=9218868437227405312∨0<rdC K A B ((l:Int)+1)):
 numX neg M e mode=(rdA K A B (if neg=true then swM mode else mode) l).1+sgb neg∧numC neg M e mode=(rdA K A B (if neg=true then swM mode else mode) l).2:=by
 cases neg
 ·have h:=read_pos M e mode K A B s l m0 m1 hM hs SC l1 l2 l3
  rw [if_neg (by simp),←h]
  exact ⟨by show _=_+0;omega,rfl⟩
 ·have hsw:0≤swM mode∧swM mode≤4:=by unfold swM;split<;>(try split)<;>omega
  have h:=read_pos M e (swM mode) K A B s l hsw.1 hsw.2 hM hs SC l1 l2 l3
  obtain ⟨h1,h2⟩:=num_sw M e mode m0 m1
  rw [if_pos rfl,←h,h1,h2]
  exact ⟨rfl,rfl⟩
theorem cmpI_scale (a b k:Int) (hk:0<k):cmpI (a*k) (b*k)=cmpI a b:=by
 rcases Int.lt_trichotomy a b with h|h|h
 ·have:=Int.mul_lt_mul_of_pos_right h hk
  rw [show cmpI a b= -1 by unfold cmpI;rw [if_pos h]]
  unfold cmpI;rw [if_pos this]
 ·subst h
  rw [(cmpI_eq_zero _ _).2 rfl,(cmpI_eq_zero _ _).2 rfl]
 ·have:=Int.mul_lt_mul_of_pos_right h hk
  have e1:cmpI a b=1:=by unfold cmpI;rw [if_neg (by omega),if_pos h]
  rw [e1]
  unfold cmpI;rw [if_neg (by omega),if_pos this]
theorem rvi_rep3 (n:Nat): ∃q h,rvi n=q*2^h∧rvi (n+1)=(q+1)*2^h∧q<9007199254740992:=by
 by_cases hn:n<4503599627370496
 ·have:=rvi_parts 0 n (by omega) (.inl rfl)
  rw [Nat.zero_mul,Nat.zero_add] at this
  exact ⟨n,0,this.1,this.2,by omega⟩
 ·have:=rvi_parts (n/4503599627370496-1) (n%4503599627370496+4503599627370496) (by omega) (.inr (by omega))
  rw [show (n/4503599627370496-1)*4503599627370496+(n%4503599627370496+4503599627370496)=n by omega] at this
  exact ⟨_,_,this.1,this.2,by omega⟩
theorem same_of (s V K A B:Nat) (HC: ∀q h c:Nat,q≤18014398509481984→c≤1→cmpI ((q*2^h*2^s:Nat):Int) ((2^c*V:Nat):Int)=cmpI (((q*2^h:Nat):Int)*(B:Int)) (((2^c:Nat):Int)*((A:Int)*pw K))):
 SameC s (V:Int) K A B:=by
 constructor
 ·intro r hr
  obtain ⟨q,h,q1,q2,q3⟩:=rvi_rep3 r
  have h9:=HC q h 0 (by omega) (by omega)
  unfold cR rdC
  rw [rT_nat,rvs_nat9,q1]
  rw [Nat.pow_zero,Nat.one_mul] at h9
  rw [h9]
  congr 1
  show (1:Int)*_=_
  rw [Int.one_mul]
 ·intro r hr
  obtain ⟨q,h,q1,q2,q3⟩:=rvi_rep3 r
  have h9:=HC (2*q+1) h 1 (by omega) (by omega)
  unfold cM rdM
  rw [show (r:Int)+1=((r+1:Nat):Int) by omega,rT_nat,rT_nat,rvs_nat9,rvs_nat9,cmpI_swap]
  congr 1
  have e1:rvi r*2^s+rvi (r+1)*2^s=(2*q+1)*2^h*2^s:=by
   rw [q1,q2,←Nat.add_mul,←Nat.add_mul];congr 2;omega
  have e2:rvi r+rvi (r+1)=(2*q+1)*2^h:=by rw [q1,q2,←Nat.add_mul];congr 1;omega
  rw [←Int.natCast_add,e1,←Int.natCast_add,e2]
  rw [Nat.pow_one] at h9
  rw [show (2:Int)*(V:Int)=((2*V:Nat):Int) by omega,h9]
  rfl
theorem cmpI_nat_scale (a b k:Nat) (hk:0<k):cmpI ((a*k:Nat):Int) ((b*k:Nat):Int)=cmpI (a:Int) (b:Int):=by
 rw [Int.natCast_mul,Int.natCast_mul];exact cmpI_scale _ _ _ (by omega)
theorem cmpN_lt {a b:Nat} (h:a<b):cmpI (a:Int) (b:Int)= -1:=by unfold cmpI;rw [if_pos (by omega)]
theorem cmpN_gt {a b:Nat} (h:b<a):cmpI (a:Int) (b:Int)=1:=by unfold cmpI;rw [if_neg (by omega),if_pos (by omega)]
theorem cmpN_eq {a b:Nat} (h:a=b):cmpI (a:Int) (b:Int)=0:=(cmpI_eq_zero _ _).2 (by omega)
theorem mark_cmp (q f F N M Q R st:Nat) (hq:q≤18014398509481984) (hN:0<N) (hM:M=N*Q+R) (hR:R<N) (hst:st=if R=0 then 0 else 1) (hQ:1152921504606846976≤Q):
 cmpI ((q*2^f:Nat):Int) (((4*Q+st)*2^F:Nat):Int)=cmpI ((q*2^f*N:Nat):Int) ((M*2^(F+2):Nat):Int):=by
 obtain ⟨P,hP⟩: ∃P,P=2^F:=⟨_,rfl⟩
 have hPp:0<P:=by rw [hP];exact Nat.two_pow_pos F
 have e4:2^(F+2)=4*P:=by rw [hP,Nat.pow_succ,Nat.pow_succ];omega
 rw [←hP,e4]
 rcases Nat.lt_or_ge f (F+2) with h|h
 ·-- below all of it
  have h2:2^f≤2*P:=by
   have:2^f≤2^(F+1):=Nat.pow_le_pow_right (by omega) (by omega)
   rw [Nat.pow_succ,←hP] at this;omega
  have h3:q*2^f≤18014398509481984*(2*P):=Nat.mul_le_mul hq h2
  have h5:1152921504606846976*P≤Q*P:=Nat.mul_le_mul_right _ hQ
  have h6:(4*Q+st)*P=4*(Q*P)+st*P:=by rw [Nat.add_mul,Nat.mul_assoc]
  have h7:q*2^f<(4*Q+st)*P:=by rw [h6];omega
  rw [cmpN_lt h7,cmpN_lt]
  have h8:q*2^f*N<Q*P*N:=Nat.mul_lt_mul_of_pos_right (by omega) hN
  have h9:M*(4*P)=4*(Q*P*N)+R*(4*P):=by
   rw [hM,Nat.add_mul];congr 1
   rw [Nat.mul_comm N Q,Nat.mul_assoc Q N,Nat.mul_comm N (4*P),←Nat.mul_assoc,←Nat.mul_assoc,Nat.mul_comm Q 4,Nat.mul_assoc 4,Nat.mul_assoc 4]
  rw [h9]
  have:=Nat.zero_le (R*(4*P))
  have h10:Q*P*N≤4*(Q*P*N):=Nat.le_mul_of_pos_left _ (by omega)
  omega
 ·-- a multiple of the unit
  obtain ⟨n,hn⟩: ∃n,n=q*2^(f-(F+2)):=⟨_,rfl⟩
  have h1:q*2^f=n*(4*P):=by
   rw [hn,Nat.mul_assoc,←e4,←Nat.pow_add];congr 2;omega
  rw [h1]
  have e1:n*(4*P)=(4*n)*P:=by rw [←Nat.mul_assoc,Nat.mul_comm n 4]
  have e2:n*(4*P)*N=(n*N)*(4*P):=by rw [Nat.mul_right_comm]
  rw [e2,cmpI_nat_scale (n*N) M (4*P) (by omega),e1,cmpI_nat_scale (4*n) (4*Q+st) P hPp,hM]
  have hst2:st≤1:=by rw [hst];split<;>omega
  rcases Nat.lt_trichotomy n Q with h2|h2|h2
  ·have h3:(n+1)*N≤Q*N:=Nat.mul_le_mul_right N h2
   rw [Nat.add_mul,Nat.one_mul,Nat.mul_comm Q N] at h3
   rw [cmpN_lt (by omega),cmpN_lt (by omega)]
  ·subst h2
   rw [Nat.mul_comm n N]
   by_cases h0:R=0
   ·rw [if_pos h0] at hst
    rw [cmpN_eq (by omega),cmpN_eq (by omega)]
   ·rw [if_neg h0] at hst
    rw [cmpN_lt (by omega),cmpN_lt (by omega)]
  ·have h3:(Q+1)*N≤n*N:=Nat.mul_le_mul_right N h2
   rw [Nat.add_mul,Nat.one_mul,Nat.mul_comm Q N] at h3
   rw [cmpN_gt (by omega),cmpN_gt (by omega)]
theorem same_exact (K A:Nat):SameC 0 ((A*2^K:Nat):Int) K A 1:=by
 refine same_of 0 (A*2^K) K A 1 (fun q h c _ _=>?_)
 rw [Nat.pow_zero,Nat.mul_one,show ((1:Nat):Int)=1 from rfl,Int.mul_one,Int.natCast_mul (2^c),Int.natCast_mul A]
 rfl
theorem same_mark (K s M0 N0 tz tb kk Q R st F:Nat) (hN:0<N0) (hM:M0*2^kk=N0*Q+R) (hR:R<N0) (hst:st=if R=0 then 0 else 1) (hQ:1152921504606846976≤Q)
 (hF:F+2+tb+kk=tz+K+s):SameC s (((4*Q+st)*2^F:Nat):Int) K (M0*2^tz) (N0*2^tb):=by
 refine same_of s ((4*Q+st)*2^F) K _ _ (fun q h c hq hc=>?_)
 have h1:=mark_cmp q (h+s) (F+c) N0 (M0*2^kk) Q R st hq hN hM hR hst hQ
 have e1:q*2^h*2^s=q*2^(h+s):=by rw [Nat.mul_assoc,←Nat.pow_add]
 have e2:2^c*((4*Q+st)*2^F)=(4*Q+st)*2^(F+c):=by rw [Nat.mul_left_comm,←Nat.pow_add,Nat.add_comm c F]
 rw [e1,e2,h1]
 have e3:(((q*2^h:Nat):Int)*((N0*2^tb:Nat):Int))=((q*2^h*(N0*2^tb):Nat):Int):=by rw [Int.natCast_mul (q*2^h)]
 have e4:(((2^c:Nat):Int)*(((M0*2^tz:Nat):Int)*pw K))=((2^c*(M0*2^tz*2^K):Nat):Int):=by
  rw [pw_nat,←Int.natCast_mul,←Int.natCast_mul]
 rw [e3,e4]
 have hp1:0<2^(tb+kk):=Nat.two_pow_pos _
 have hp2:0<2^(kk+s):=Nat.two_pow_pos _
 rw [←cmpI_nat_scale (q*2^(h+s)*N0) _ (2^(tb+kk)) hp1,←cmpI_nat_scale (q*2^h*(N0*2^tb)) _ (2^(kk+s)) hp2]
 congr 2
 ·rw [Nat.pow_add,Nat.pow_add,Nat.pow_add]
  simp only [Nat.mul_assoc,Nat.mul_comm,Nat.mul_left_comm]
 ·have a1:M0*2^kk*2^(F+c+2)*2^(tb+kk)=M0*2^(kk+(F+c+2)+(tb+kk)):=by
   rw [Nat.mul_assoc,Nat.mul_assoc,←Nat.pow_add,←Nat.pow_add];congr 2;omega
  have a2:2^c*(M0*2^tz*2^K)*2^(kk+s)=M0*2^(c+tz+K+(kk+s)):=by
   rw [Nat.mul_assoc M0,←Nat.pow_add,Nat.mul_left_comm,Nat.mul_assoc,←Nat.pow_add,←Nat.pow_add];congr 2;omega
  rw [a1,a2];congr 2;omega
theorem same_high (s V K A B:Nat) (h1:rvi 9218868437227405312*2^s<V) (h2:rvi 9218868437227405312*B<A*2^K):SameC s (V:Int) K A B:=by
 have hm: ∀r:Nat,(r:Int)≤9218868437227405312→rvi r≤rvi 9218868437227405312:=fun r hr=>by
  rcases Nat.lt_or_ge r 9218868437227405312 with h|h
  ·exact Nat.le_of_lt (rvi_mono h)
  ·rw [show r=9218868437227405312 by omega];exact Nat.le_refl _
 have k1: ∀r:Nat,(r:Int)≤9218868437227405312→rvi r*2^s<V:=fun r hr=>Nat.lt_of_le_of_lt (Nat.mul_le_mul_right _ (hm r hr)) h1
 have k2: ∀r:Nat,(r:Int)≤9218868437227405312→rvi r*B<A*2^K:=fun r hr=>Nat.lt_of_le_of_lt (Nat.mul_le_mul_right _ (hm r hr)) h2
 constructor
 ·intro r hr
  unfold cR rdC
  rw [rT_nat,rvs_nat9,←Int.natCast_mul,pw_nat,←Int.natCast_mul,cmpN_lt (k1 r hr),cmpN_lt (k2 r hr)]
 ·intro r hr
  have a1:=k1 r (by omega)
  have a2:=k1 (r+1) (by omega)
  have b1:=k2 r (by omega)
  have b2:=k2 (r+1) (by omega)
  unfold cM rdM
  rw [show (r:Int)+1=((r+1:Nat):Int) by omega,rT_nat,rT_nat,rvs_nat9,rvs_nat9,←Int.natCast_add,←Int.natCast_add,←Int.natCast_mul,pw_nat,←Int.natCast_mul,
   show (2:Int)*(V:Int)=((2*V:Nat):Int) by omega,show (2:Int)*((A*2^K:Nat):Int)=((2*(A*2^K):Nat):Int) by omega,Nat.add_mul,cmpN_gt (by omega),cmpN_lt (by omega)]
  rfl
theorem same_low (s V K A B:Nat) (h0:0<V) (h1:2*V<2^s) (h2:0<A*2^K) (h3:2*(A*2^K)<B):SameC s (V:Int) K A B:=by
 have hm: ∀r:Nat,0<r→1≤rvi r:=fun r hr=>by
  have:= @rvi_mono 0 r hr
  rw [rvi_zero] at this;omega
 constructor
 ·intro r hr
  unfold cR rdC
  rw [rT_nat,rvs_nat9,←Int.natCast_mul,pw_nat,←Int.natCast_mul]
  by_cases hr0:r=0
  ·subst hr0
   rw [rvi_zero,Nat.zero_mul,Nat.zero_mul,cmpN_lt h0,cmpN_lt h2]
  ·have h5:=hm r (by omega)
   have a1:=Nat.mul_le_mul_right (2^s) h5
   have a2:=Nat.mul_le_mul_right B h5
   rw [cmpN_gt (by omega),cmpN_gt (by omega)]
 ·intro r hr
  have h5:=hm (r+1) (by omega)
  have a1:=Nat.mul_le_mul_right (2^s) h5
  have a2:=Nat.mul_le_mul_right B h5
  unfold cM rdM
  rw [show (r:Int)+1=((r+1:Nat):Int) by omega,rT_nat,rT_nat,rvs_nat9,rvs_nat9,←Int.natCast_add,←Int.natCast_add,←Int.natCast_mul,pw_nat,←Int.natCast_mul,
   show (2:Int)*(V:Int)=((2*V:Nat):Int) by omega,show (2:Int)*((A*2^K:Nat):Int)=((2*(A*2^K):Nat):Int) by omega,Nat.add_mul,cmpN_lt (by omega),cmpN_gt (by omega)]
end Go.Ulp
