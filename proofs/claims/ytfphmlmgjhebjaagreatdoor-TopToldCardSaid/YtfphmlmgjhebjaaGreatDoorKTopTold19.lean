/- TopTold: what the proof leans on, part 19 (Hx2 Tx7 Tx9 Tx11 Tt0 Re12 Re13 Sy4 Tx12 Sy6 Sy8 Sy9 Wa0 Wa1 Wa2 Wa4 Tx13 Tx14 Hx3 Hx4). -/
import Derived.MapKept
import Derived.Test.YtfphmlmgjhebjaaGreatDoorKTopTold10
import Derived.Test.YtfphmlmgjhebjaaGreatDoorKTopTold11
import Derived.Test.YtfphmlmgjhebjaaGreatDoorKTopTold12
import Derived.Test.YtfphmlmgjhebjaaGreatDoorKTopTold13
import Derived.Test.YtfphmlmgjhebjaaGreatDoorKTopTold14
import Derived.Test.YtfphmlmgjhebjaaGreatDoorKTopTold15
import Derived.Test.YtfphmlmgjhebjaaGreatDoorKTopTold16
import Derived.Test.YtfphmlmgjhebjaaGreatDoorKTopTold17
import Derived.Test.YtfphmlmgjhebjaaGreatDoorKTopTold18
set_option linter.unusedVariables false
set_option linter.unusedSimpArgs false
namespace Go.Ulp
open Go.RowKit
def hfD (D:Dy) (n:Nat) (mode:Int):Dy:=mplD D (hfK D-4*(n:Int)) mode
def hfM (E:Dy) (n:Nat):Nat:=E.1.natAbs*2^(E.2-hfK E+4*(n:Int)).toNat
def hfT (x:Int) (n:Nat) (mode:Int):List UInt8:=hxT (negB x) n (hfM (hfD (fv x) n mode) n) (hfK (hfD (fv x) n mode))
def hfC (x:Int) (n:Nat):Bool:=mplC (fv x) (hfK (fv x)-4*(n:Int))
theorem hf_main (D:Dy) (n:Nat) (mode:Int) (hI:IsN D) (h:D.1≠0):
 (hfD D n mode).1≠0∧IsN (hfD D n mode)∧(hfK (hfD D n mode)=hfK D∨hfK (hfD D n mode)=hfK D+1)∧hfK (hfD D n mode)-4*(n:Int)≤(hfD D n mode).2∧(hfD D n mode).1.natAbs≤D.1.natAbs+1:=by
 unfold hfD mplD
 obtain ⟨L,hL⟩: ∃L,bl D.1.natAbs=L+1:=⟨bl D.1.natAbs-1,by have:=(bl_pos D.1.natAbs).2 (by omega);omega⟩
 have hKD:hfK D=(L:Int)+D.2:=by unfold hfK;rw [hL];omega
 by_cases hk:mulK D (hfK D-4*(n:Int))=true
 ·rw [if_pos hk,nrm_of_isN D hI]
  have hk2:=of_decide_eq_true hk
  exact ⟨h,hI,.inl rfl,by rcases hk2 with h2|h2<;>omega,by omega⟩
 ·rw [if_neg hk]
  have hk2: ¬(hfK D-4*(n:Int)≤D.2∨D.1=0):=fun hh=>hk (decide_eq_true hh)
  have hlt:D.2<hfK D-4*(n:Int):=by omega
  obtain ⟨p,hp⟩: ∃p,p=hfK D-4*(n:Int):=⟨_,rfl⟩
  rw [←hp] at hlt ⊢
  obtain ⟨j,hj⟩: ∃j:Nat,p-D.2=((j+1:Nat):Int):=⟨(p-D.2).toNat-1,by omega⟩
  rw [hj,cut_pos]
  have hLj:L=4*n+(j+1):=by omega
  have lo:2^L≤D.1.natAbs:=by
   have:=bl_le D.1.natAbs L
   omega
  have hi:D.1.natAbs<2^(L+1):=by rw [←hL];exact lt_bl _
  have q0:2^(4*n)≤D.1.natAbs/2^(j+1):=by
   rw [Nat.le_div_iff_mul_le (Nat.two_pow_pos _),←Nat.pow_add,←hLj];exact lo
  have q1:D.1.natAbs/2^(j+1)<2^(4*n+1):=by
   rw [Nat.div_lt_iff_lt_mul (Nat.two_pow_pos _),←Nat.pow_add,show 4*n+1+(j+1)=L+1 by omega];exact hi
  obtain ⟨q,hq⟩: ∃q,q=(if D.1.natAbs%2^(j+1)≠0∧upN (decide (D.1<0)) (decide (((D.1.natAbs/2^(j+1):Nat):Int)%2=1)) (cmpI ((D.1.natAbs%2^(j+1):Nat):Int) ((2^j:Nat):Int)) mode=true then D.1.natAbs/2^(j+1)+1 else D.1.natAbs/2^(j+1)):=⟨_,rfl⟩
  rw [←hq]
  have hqq:q=D.1.natAbs/2^(j+1)∨q=D.1.natAbs/2^(j+1)+1:=by rw [hq];split<;>simp
  have hdl:=Nat.div_le_self D.1.natAbs (2^(j+1))
  have hq0:0<q:=by have:=Nat.two_pow_pos (4*n);omega
  have hs0:sg (decide (D.1<0)) (q:Int)≠0:=by unfold sg;split<;>omega
  have hsa:(sg (decide (D.1<0)) (q:Int)).natAbs=q:=by rw [sg_abs];omega
  have hKE:=hfK_nrm (sg (decide (D.1<0)) (q:Int)) p hs0
  rw [hsa] at hKE
  have hb:=nrm_bd (sg (decide (D.1<0)) (q:Int)) p (bl q) (by rw [hsa];exact lt_bl q)
  have hle:(nrm (sg (decide (D.1<0)) (q:Int)) p).1.natAbs≤q:=by
   obtain ⟨k,h1,-⟩:=nrm_rep (sg (decide (D.1<0)) (q:Int)) p
   have h3:q=(nrm (sg (decide (D.1<0)) (q:Int)) p).1.natAbs*2^k:=by
    conv=>lhs;rw [←hsa,h1]
    exact natAbs_mul_pw _ _
   have:=Nat.le_mul_of_pos_right (nrm (sg (decide (D.1<0)) (q:Int)) p).1.natAbs (Nat.two_pow_pos k)
   omega
  have hne:(nrm (sg (decide (D.1<0)) (q:Int)) p).1≠0:=fun h=>hs0 ((nrm_zero_iff _ _).1 h)
  have h3:=hb.2
  refine ⟨hne,nrm_isN _ _,?_,?_,by omega⟩
  ·rw [hKE]
   have b0:4*n<bl q:=by have:=bl_le q (4*n);omega
   have b1:bl q≤4*n+2:=by
    rw [bl_le,Nat.pow_succ];omega
   omega
  ·rcases h3 with ⟨h4,-⟩|⟨h4,-⟩
   ·exact absurd h4 hne
   ·rw [hKE]
    have b1:bl q≤4*n+2:=by
     rw [bl_le,Nat.pow_succ];omega
    rcases Nat.lt_or_ge (bl q) (4*n+2) with hb2|hb2
    ·omega
    ·have hq2:q=2^(4*n+1):=by
      have:=bl_le q (4*n+1)
      omega
     have e1:sg (decide (D.1<0)) (q:Int)=sg (decide (D.1<0)) 1*pw (4*n+1):=by
      rw [hq2,sg_mul,Int.one_mul];rfl
     have hs1:(sg (decide (D.1<0)) 1).natAbs=1:=by rw [sg_abs];rfl
     rw [e1,nrm_scale,nrm_of_isN (sg (decide (D.1<0)) 1,p+((4*n+1:Nat):Int)) (.inr (by show (sg (decide (D.1<0)) 1).natAbs%2=1;omega))]
     show _≤p+((4*n+1:Nat):Int)
     omega
def hfN (D:Dy):Nat:=(bl D.1.natAbs-1+3)/4
theorem hfD_self (D:Dy) (n:Nat) (mode:Int) (hI:IsN D) (hn:hfN D≤n):hfD D n mode=D:=by
 have hKD:hfK D=(bl D.1.natAbs:Int)+D.2-1:=rfl
 unfold hfN at hn
 unfold hfD mplD mulK
 rw [if_pos (by rw [decide_eq_true_eq];omega),nrm_of_isN D hI]
theorem dsh_app (n:Bool) (L:List UInt8):(if n=true then [45] else [])++L=dsh n L:=by unfold dsh;cases n<;>rfl
theorem fv_small (x:Int) (h0:0≤x) (h1:x<18446744073709551616):(limbs (fv x).1.natAbs).length≤2∧ -1074≤(fv x).2∧(fv x).2≤1024:=by
 obtain ⟨-,h2,h3,h4⟩:=fv_bd x h0 h1
 exact ⟨limbs_short2 53 2 (by omega) _ h2,h3,h4⟩
theorem dA_bits (D:Dy) (h:D.1.natAbs<2^53) (h2:D.2≤1024) (E:Nat) (hE:1077≤E):dA D<2^E:=by
 unfold dA
 obtain ⟨K,hK⟩: ∃K,K=D.2.toNat:=⟨_,rfl⟩
 rw [←hK]
 have h3:2^(53+K)≤2^E:=Nat.pow_le_pow_right (by omega) (by omega)
 rw [Nat.pow_add] at h3
 exact Nat.lt_of_lt_of_le (Nat.mul_lt_mul_of_pos_right h (Nat.two_pow_pos _)) h3
theorem tn_bits (p:Int) (P:Nat) (h:p≤P):tnN p<2^(4*P+1):=by
 unfold tnN
 have h1:(10:Nat)^p.toNat≤10^P:=Nat.pow_le_pow_right (by omega) (by omega)
 have h2:(10:Nat)^P≤(2^4)^P:=Nat.pow_le_pow_left (by decide) P
 rw [←Nat.pow_mul] at h2
 rw [Nat.pow_succ]
 have:=Nat.two_pow_pos (4*P)
 omega
theorem mul_bits {a b A B:Nat} (h:a<2^A) (k:b<2^B):a*b<2^(A+B):=by
 rw [Nat.pow_add];exact Nat.mul_lt_mul'' h k
theorem dB_bits (D:Dy) (h: -1074≤D.2) (E:Nat) (hE:1077≤E):dB D<2^E:=by
 unfold dB;exact Nat.pow_lt_pow_right (by omega) (by omega)
theorem scaled_bits (D:Dy) (t:Int) (P:Nat) (h:D.1.natAbs<2^53) (h2:D.2≤1024) (h3: -1074≤D.2) (hP: -(P:Int)≤t∧t≤P) (E:Nat) (hE:1077+(4*P+1)≤E):
 dA D*tnN t<2^E∧dB D*tnN (-t)<2^E:=by
 obtain ⟨F,hF⟩: ∃F,E=F+(4*P+1):=⟨E-(4*P+1),by omega⟩
 rw [hF]
 exact ⟨mul_bits (dA_bits D h h2 F (by omega)) (tn_bits t P hP.2),mul_bits (dB_bits D h3 F (by omega)) (tn_bits (-t) P (by omega))⟩
end Go.Ulp
namespace Go.Proofs.YtfphmlmgjhebjaaGreatDoor
open Go.RowKit Go.Ulp
set_option maxHeartbeats 2000000
set_option maxRecDepth 100000
end Go.Proofs.YtfphmlmgjhebjaaGreatDoor
namespace Go.Ulp
open Go.RowKit
def fxN (x:Int) (p:Nat) (mode:Int):Nat:=rtN (negB x) (dA (fv x)*tnN (p:Int)) (dB (fv x)*tnN (-(p:Int))) mode
def fxC (x:Int) (p:Nat):Bool:=rtC (dA (fv x)*tnN (p:Int)) (dB (fv x)*tnN (-(p:Int)))
def fxT (x:Int) (p:Nat) (mode:Int):List UInt8:=dsh (negB x) (ptd (decD (fxN x p mode)) p)
theorem rtN_zero (neg:Bool) (b:Nat) (mode:Int):rtN neg 0 b mode=0:=by unfold rtN;simp
theorem rtN_sign (D:Dy) (neg:Bool) (h:0<D.1.natAbs→decide (D.1<0)=neg) (t:Int) (b:Nat) (mode:Int):rtN (decide (D.1<0)) (dA D*tnN t) b mode=rtN neg (dA D*tnN t) b mode:=by
 rcases Nat.eq_zero_or_pos D.1.natAbs with h0|h0
 ·have:dA D=0:=by unfold dA;rw [h0,Nat.zero_mul]
  rw [this,Nat.zero_mul,rtN_zero,rtN_zero]
 ·rw [h h0]
theorem fv_sign2 (x:Int) (h:0<(fv x).1.natAbs):decide ((fv x).1<0)=negB x:=by
 have h1:(fv x).1≠0:=by omega
 unfold fv at h1 ⊢
 have h2:sg (negB x) (mantOf x)≠0:=fun h=>h1 ((nrm_zero_iff _ _).2 h)
 obtain ⟨k,h3,-⟩:=nrm_rep (sg (negB x) (mantOf x)) (dexp x)
 have hp:=pw_pos k
 generalize (nrm (sg (negB x) (mantOf x)) (dexp x)).1=y at *
 have hm:0≤mantOf x:=by
  have:=(show 0≤fracOf x by unfold fracOf;omega)
  unfold mantOf;split<;>omega
 cases hn:negB x
 ·rw [hn] at h3 h2
  have h4:0<y*pw k:=by rw [←h3];unfold sg at h2 ⊢;simp at h2 ⊢;omega
  refine decide_eq_false ?_
  intro h5
  have:=Int.mul_neg_of_neg_of_pos h5 hp
  omega
 ·rw [hn] at h3 h2
  have h4:y*pw k<0:=by rw [←h3];unfold sg at h2 ⊢;simp at h2 ⊢;omega
  refine decide_eq_true ?_
  rcases Int.lt_or_le y 0 with h5|h5
  ·exact h5
  ·have:=Int.mul_nonneg h5 (Int.le_of_lt hp)
   omega
def scQ (x:Int) (k:Nat) (pd mode:Int):Nat:=sciQ (negB x) (dA (fv x)) (dB (fv x)) k pd mode
def scS (x:Int) (k:Nat) (pd mode:Int):List UInt8:=if (fv x).1=0 then List.replicate (k+1) 48 else sciD (scQ x k pd mode) k
def scP (x:Int) (k:Nat) (pd mode:Int):Int:=if (fv x).1=0 then 0 else sciP (scQ x k pd mode) k pd
def scC (x:Int) (k:Nat) (pd:Int):Bool:=if (fv x).1=0 then false else sciC (dA (fv x)) (dB (fv x)) k pd
def scT (x:Int) (k:Nat) (pd mode:Int):List UInt8:=dsh (negB x) (ptd (scS x k pd mode) k++101::pwrT (scP x k pd mode))
end Go.Ulp
namespace Go.Proofs.YtfphmlmgjhebjaaGreatDoor
open Go.RowKit Go.Ulp
set_option maxHeartbeats 2000000
set_option maxRecDepth 100000
theorem knownT_any (mode:Int) (w:World):Calls Tryz.prog 78 #[.int .i64 mode] w fun e w'=>e=.returned (.bool (decide (0≤mode∧mode≤4)))∧w=w':=by
 obtain ⟨K,hK⟩: ∃K,K=decide (0≤mode∧mode≤4):=⟨_,rfl⟩
 rw [←hK]
 by_cases h:0≤mode
 ·have HC:=hid (show decide (mode≤4)=K by rw [hK,decide_eq_decide];omega)
  clear hK
  go_enter Tryz.func78,Tryz.ntmps78
  go_wp2_with fail
  go_ret
  exact ⟨ret_bool HC.out,rfl⟩
 ·have HC:=hid (show false=K by rw [hK,eq_comm];exact decide_eq_false (by omega))
  clear hK
  go_enter Tryz.func78,Tryz.ntmps78
  go_wp2_with fail
  go_ret
  exact ⟨ret_bool HC.out,rfl⟩
theorem fixedP_ok (x mode:Int) (p:Nat) (h0:0≤x) (h1:x<18446744073709551616) (hv:hasVal x=true) (m0:0≤mode) (m1:mode≤4) (hp:p≤1100) (w:World) (hT:Tab 1 w) (hT10:Tab10 w):
 Calls Tryz.prog 124 #[.int .u64 x,.int .i64 (p:Int),.int .i64 mode] w fun e w'=>e=.returned (.tuple #[.string (bsOf (fxT x p mode)),.bool (fxC x p),.int .i64 0])∧Below w.heap.size w w':=by
 have FS:=fv_sign2 x
 obtain ⟨d1,d2,d3⟩:=fv_small x h0 h1
 obtain ⟨-,d4,-⟩:=fv_bd x h0 h1
 have hFX:fxT x p mode=dsh (negB x) (ptd (decD (fxN x p mode)) p):=rfl
 have hFN:fxN x p mode=rtN (decide ((fv x).1<0)) (dA (fv x)*tnN (p:Int)) (dB (fv x)*tnN (-(p:Int))) mode:=(rtN_sign _ _ FS _ _ _).symm
 have hFC:fxC x p=rtC (dA (fv x)*tnN (p:Int)) (dB (fv x)*tnN (-(p:Int))):=rfl
 obtain ⟨E,hE⟩: ∃E,E=5500:=⟨_,rfl⟩
 obtain ⟨s1,s2⟩:=scaled_bits (fv x) (p:Int) 1100 d4 d3 d2 (by omega) E (by omega)
 have SCe:=hid (fun v w h=>scaled_any v (fv x) (p:Int) w h (by omega) (by omega) (by omega))
 have VA:=hid (fun w t=>value_any x h0 h1 w t)
 generalize fv x=D at *
 obtain ⟨A,hA⟩: ∃A,A=dA D*tnN (p:Int):=⟨_,rfl⟩
 obtain ⟨B,hB⟩: ∃B,B=dB D*tnN (-(p:Int)):=⟨_,rfl⟩
 have hB0:0<B:=by rw [hB];exact Nat.mul_pos (dB_pos D) (tnN_pos _)
 rw [←hA,←hB] at hFN hFC SCe
 rw [←hA] at s1
 rw [←hB] at s2
 obtain ⟨N,hN⟩: ∃N,N=fxN x p mode:=⟨_,rfl⟩
 rw [←hN] at hFN hFX
 have hNA:N≤A+1:=by
  have h1:=(rtN_ge (decide (D.1<0)) A B mode).2
  have h2:=Nat.div_le_self A B
  omega
 have hNE:N<2^(E+1):=by rw [Nat.pow_succ];have:=Nat.two_pow_pos E;omega
 have lA:=limbs_short2 E 200 (by omega) A s1
 have lB:=limbs_short2 E 200 (by omega) B s2
 have lN:=limbs_short2 (E+1) 200 (by omega) N hNE
 have lD:(decD N).length≤10000:=Nat.le_trans (decD_bits N (E+1) hNE (by omega)) (by omega)
 have RO:=hid (fun g w h=>by
  have h9:=ratioRound_any g (decide (D.1<0)) A B mode w h (by omega) hB0 (by omega)
  rwa [←hFN,←hFC] at h9)
 have DE:=hid (fun ao c w h t=>decimal_any ao c N w h (by omega) t)
 have PT:=hid (fun w=>point_any (decD N) p w (by omega) (by omega))
 have SG:=hid (fun w=>signT_any x h0 h1 w)
 have HV:=hid (show ∀w,Calls Tryz.prog 47 #[.int .u64 x] w fun e w'=>e=.returned (.bool true)∧w=w' from fun w=>by
  have h9:=hasValue_any x h0 h1 w
  rwa [hv] at h9)
 have KN:=hid (show ∀w,Calls Tryz.prog 78 #[.int .i64 mode] w fun e w'=>e=.returned (.bool true)∧w=w' from fun w=>by
  have h9:=knownT_any mode w
  rwa [decide_eq_true (show 0≤mode∧mode≤4 from ⟨m0,m1⟩)] at h9)
 have hlp:=ptd_len (decD N) p
 have hAD:=add_bs (P:=Tryz.prog) (if negB x=true then [45] else []) (ptd (decD N) p) (by split<;>simp<;>omega)
 rw [dsh_app,←hFX] at hAD
 have HT:=hid hT
 have HT10:=hid hT10
 have hp1: ¬(p:Int)<0:=by omega
 have hp2: ¬1100<(p:Int):=by omega
 generalize fxT x p mode=T at *
 generalize fxC x p=C at *
 generalize ptd (decD N) p=T2 at *
 generalize (if negB x=true then [45] else [])=T1 at *
 generalize decD N=T3 at *
 clear hN hA hB hFX hFN hFC hNA hNE s1 s2 lA lB lN d1 d4 hB0 hT hT10 hv hlp lD hE E FS
 go_enter Tryz.func124,Tryz.ntmps124
 go_wp2_with (first
  |(go_at_call 47;(with_reducible refine (HV.out _).mono ?_);rintro en w1 ⟨rfl,rfl⟩)
  |(go_at_call 78;(with_reducible refine (KN.out _).mono ?_);rintro en w1 ⟨rfl,rfl⟩)
  |(go_at_call 96;(with_reducible refine (VA.out _ HT.out).mono ?_);rintro en w2 ⟨v,rfl,hv2,hb2⟩)
  |(go_at_call 182;(with_reducible refine (SCe.out _ _ hv2).mono ?_);rintro en w5 ⟨g5,rfl,hr5,hb5⟩)
  |(go_at_call 183;(with_reducible refine (RO.out _ _ hr5).mono ?_);rintro en w6 ⟨aq,cq,rfl,hNq,hb6⟩;have y6:=below_trans (below_trans hb2 hb5) hb6)
  |(go_at_call 184;(with_reducible refine (SG.out _).mono ?_);rintro en w7 ⟨rfl,rfl⟩)
  |(go_at_call 166;(with_reducible refine (DE.out _ _ _ hNq (HT10.out.below y6)).mono ?_);rintro en w8 ⟨rfl,hb8⟩)
  |(go_at_call 185;(with_reducible refine (PT.out _).mono ?_);rintro en w9 ⟨rfl,hb9⟩))
 all_goals go_ret3
 all_goals exact ⟨rfl,below_trans (below_trans y6 hb8) hb9⟩
theorem digitsX_any (x:Int) (h0:0≤x) (h1:x<18446744073709551616) (v:Value) (k:Nat) (mode pd:Int) (w:World) (hv:VD w (fv x) v) (hp:(fv x).1≠0→IsDec (dA (fv x)) (dB (fv x)) pd) (hpb: -3000≤pd∧pd≤3000) (hk:k≤2000) (hT10:Tab10 w):
 Calls Tryz.prog 162 #[v,.int .i64 ((k:Int)+1),.int .i64 mode] w fun e w'=>e=.returned (.tuple #[.string (bsOf (scS x k pd mode)),.int .i64 (scP x k pd mode),.bool (scC x k pd)])∧Below w.heap.size w w':=by
 obtain ⟨d1,d2,d3⟩:=fv_small x h0 h1
 obtain ⟨-,d4,-⟩:=fv_bd x h0 h1
 by_cases hz:(fv x).1=0
 ·unfold scS scP scC
  rw [if_pos hz,if_pos hz,if_pos hz]
  exact digitsZ_any v (fv x) (k+1) mode w hv hz (by omega)
 ·unfold scS scP scC scQ
  rw [if_neg hz,if_neg hz,if_neg hz,←fv_sign2 x (by omega)]
  have d5:(fv x).1.natAbs<2^60:=Nat.lt_of_lt_of_le d4 (Nat.pow_le_pow_right (by omega) (by omega))
  exact digits10_any v (fv x) k mode pd w hv hz d5 ⟨by omega,by omega⟩ (hp hz) hpb hk hT10
theorem sciP_ok (x mode pd:Int) (k:Nat) (h0:0≤x) (h1:x<18446744073709551616) (hv:hasVal x=true) (m0:0≤mode) (m1:mode≤4) (hk:k<800) (hp:(fv x).1≠0→IsDec (dA (fv x)) (dB (fv x)) pd) (hpb: -3000≤pd∧pd≤3000) (w:World) (hT:Tab 1 w) (hT10:Tab10 w):
 Calls Tryz.prog 125 #[.int .u64 x,.int .i64 ((k:Int)+1),.int .i64 mode] w fun e w'=>e=.returned (.tuple #[.string (bsOf (scT x k pd mode)),.bool (scC x k pd),.int .i64 0])∧Below w.heap.size w w':=by
 have hSC:scT x k pd mode=dsh (negB x) (ptd (scS x k pd mode) k++101::pwrT (scP x k pd mode)):=rfl
 have DX:=hid (fun v w h t=>digitsX_any x h0 h1 v k mode pd w h hp hpb (by omega) t)
 have VA:=hid (fun w t=>value_any x h0 h1 w t)
 have hSl:(scS x k pd mode).length≤k+1:=by
  unfold scS
  split
  ·rw [List.length_replicate];omega
  ·rename_i hz
   obtain ⟨q1,q2⟩:=sciQ_bd (negB x) (dA (fv x)) (dB (fv x)) k pd mode (dB_pos _) (hp hz)
   exact Nat.le_of_eq (sciD_len _ _ q1 q2)
 have hPb: -3001≤scP x k pd mode∧scP x k pd mode≤3001:=by
  unfold scP sciP
  split
  ·omega
  ·split<;>omega
 obtain ⟨P,hP⟩: ∃P,P=scP x k pd mode:=⟨_,rfl⟩
 rw [←hP] at hSC hPb DX
 have hpl:(pwrT P).length≤10:=by
  unfold pwrT
  have:=decD_len 3 P.natAbs (by omega)
  rw [List.length_cons,List.length_append]
  split<;>simp<;>omega
 have PW:=hid (fun w t=>power_any P (by omega) w t)
 have PT:=hid (fun w=>point_any (scS x k pd mode) k w (by omega) (by omega))
 have hlp:=ptd_len (scS x k pd mode) k
 have SG:=hid (fun w=>signT_any x h0 h1 w)
 have HV:=hid (show ∀w,Calls Tryz.prog 47 #[.int .u64 x] w fun e w'=>e=.returned (.bool true)∧w=w' from fun w=>by
  have h9:=hasValue_any x h0 h1 w
  rwa [hv] at h9)
 have KN:=hid (show ∀w,Calls Tryz.prog 78 #[.int .i64 mode] w fun e w'=>e=.returned (.bool true)∧w=w' from fun w=>by
  have h9:=knownT_any mode w
  rwa [decide_eq_true (show 0≤mode∧mode≤4 from ⟨m0,m1⟩)] at h9)
 have hA1:=add_bs (P:=Tryz.prog) (if negB x=true then [45] else []) (ptd (scS x k pd mode) k) (by split<;>simp<;>omega)
 have hA2:=add_bs (P:=Tryz.prog) (dsh (negB x) (ptd (scS x k pd mode) k)) [101] (by unfold dsh;split<;>simp<;>omega)
 have hA3:=add_bs (P:=Tryz.prog) (dsh (negB x) (ptd (scS x k pd mode) k)++ [101]) (pwrT P) (by unfold dsh;split<;>simp<;>omega)
 rw [dsh_app] at hA1
 have hFIN:dsh (negB x) (ptd (scS x k pd mode) k)++ [101]++pwrT P=scT x k pd mode:=by
  rw [hSC];unfold dsh;split<;>simp
 rw [hFIN] at hA3
 have hb101:(ByteArray.mk #[101])=bsOf [101]:=rfl
 have HT:=hid hT
 have HT10:=hid hT10
 have hk1: ¬(k:Int)+1<1:=by omega
 have hk2: ¬800<(k:Int)+1:=by omega
 have hwk:(k:Int)+1-1=(k:Int):=by omega
 have hwk2:IntKind.i64.wrap (k:Int)=(k:Int):=IntWalk.i64_in _ (by omega)
 have y0:=Below.refl w.heap.size w
 generalize dsh (negB x) (ptd (scS x k pd mode) k)++ [101]=T5 at *
 generalize dsh (negB x) (ptd (scS x k pd mode) k)=T4 at *
 generalize ptd (scS x k pd mode) k=T3 at *
 generalize scT x k pd mode=T at *
 generalize scS x k pd mode=S at *
 generalize scC x k pd=C at *
 generalize (if negB x=true then [45] else [])=T1 at *
 generalize pwrT P=T2 at *
 clear hSC hSl hPb hP hpl hlp hFIN hT hT10 hv hp hpb
 go_enter Tryz.func125,Tryz.ntmps125
 go_wp2_with (first
  |(go_at_call 47;(with_reducible refine (HV.out _).mono ?_);rintro en w1 ⟨rfl,rfl⟩)
  |(go_at_call 78;(with_reducible refine (KN.out _).mono ?_);rintro en w1 ⟨rfl,rfl⟩)
  |(go_at_call 96;(with_reducible refine (VA.out _ HT.out).mono ?_);rintro en w2 ⟨v,rfl,hv2,hb2⟩)
  |(go_at_call 162;(with_reducible refine (DX.out _ _ hv2 (HT10.out.below hb2)).mono ?_);rintro en w5 ⟨rfl,hb5⟩;have y5:=below_trans hb2 hb5)
  |(go_at_call 184;(with_reducible refine (SG.out _).mono ?_);rintro en w7 ⟨rfl,rfl⟩)
  |(go_at_call 185;(with_reducible refine (PT.out _).mono ?_);rintro en w9 ⟨rfl,hb9⟩;have y9:=below_trans y5 hb9)
  |(go_at_call 91;(with_reducible refine (PW.out _ (HT10.out.below y9)).mono ?_);rintro en w8 ⟨rfl,hb8⟩))
 all_goals go_ret3
 all_goals exact ⟨rfl,below_trans y9 hb8⟩
end Go.Proofs.YtfphmlmgjhebjaaGreatDoor
namespace Go.Ulp
open Go.RowKit
def pwG (p:Int):List UInt8:=(if p.natAbs<10 then [48] else [])++decD p.natAbs
theorem pwrT_G (p:Int):pwrT p=(if p<0 then 45 else 43)::pwG p:=rfl
theorem allDg_app {A B:List UInt8} (hA:AllDg A) (hB:AllDg B):AllDg (A++B):=fun b hb=>(List.mem_append.1 hb).elim (hA b) (hB b)
theorem allDg_rep (n:Nat):AllDg (List.replicate n 48):=fun b hb=>by rw [(List.mem_replicate.1 hb).2];decide
theorem pwG_dg (p:Int):AllDg (pwG p):=by
 unfold pwG
 refine allDg_app ?_ (decD_dg _)
 split
 ·exact allDg_rep 1
 ·intro b hb;cases hb
theorem dvl_rep_app (n:Nat) (L:List UInt8):dvl (List.replicate n 48++L)=dvl L:=by
 induction n with
 |zero=>rfl
 |succ n ih=>
  rw [List.replicate_succ,List.cons_append,dvl_cons]
  exact ih
theorem dvl_app (A B:List UInt8):dvl (A++B)=dvl A*10^B.length+dvl B:=by
 unfold dvl;rw [dvA_app,dvA_acc];rfl
theorem dvl_app_rep (A:List UInt8) (n:Nat):dvl (A++List.replicate n 48)=dvl A*10^n:=by
 have h:=dvl_rep_app n []
 rw [List.append_nil] at h
 rw [dvl_app,h,List.length_replicate];rfl
theorem dvl_pwG (p:Int):dvl (pwG p)=p.natAbs:=by
 unfold pwG
 split
 ·rw [show ([48]:List UInt8)=List.replicate 1 48 from rfl,dvl_rep_app,dvl_decD]
 ·rw [List.nil_append,dvl_decD]
theorem pwG_len (p:Int) (h:p.natAbs<10000):1≤(pwG p).length∧(pwG p).length≤5:=by
 have h1:=decD_len 3 p.natAbs (by omega)
 have h2:1≤(decD p.natAbs).length:=by
  cases hd:decD p.natAbs with
  |nil=>exact absurd hd (decD_ne _)
  |cons b r=>simp
 unfold pwG
 rw [List.length_append]
 split<;>simp<;>omega
theorem dg_all {L:List UInt8} (h:AllDg L):tkD L=L∧dpD L= []:=by
 have e:=tw_app isDg L [] h (fun b r h=>by cases h)
 rw [List.append_nil] at e
 exact e
def PwOk (P:List UInt8) (e:Int):Prop:=(P= []∧e=0)∨(P=101::pwrT e∧e.natAbs<10000)
theorem pw_read {P:List UInt8} {e:Int} (h:PwOk P e):pwO P=true∧pwV P=e:=by
 rcases h with ⟨rfl,rfl⟩|⟨rfl,hb⟩
 ·exact ⟨rfl,rfl⟩
 ·have hg:=pwG_dg e
  obtain ⟨l1,l2⟩:=pwG_len e hb
  have hv:=dvl_pwG e
  have es:sgS (pwrT e)=pwG e:=by
   rw [pwrT_G]
   by_cases c:e<0
   ·rw [if_pos c];rfl
   ·rw [if_neg c];rfl
  have en:sgnP (pwrT e)=decide (e<0):=by
   rw [pwrT_G];unfold sgnP
   by_cases c:e<0
   ·rw [if_pos c,decide_eq_true c];rfl
   ·rw [if_neg c,decide_eq_false c];rfl
  have ok:okX (pwG e)=true:=by
   unfold okX;rw [(dg_all hg).1];exact decide_eq_true ⟨l1,by omega,rfl⟩
  constructor
  ·show (isE 101&&okX (sgS (pwrT e)))=true
   rw [es,ok];rfl
  ·show (if isE 101=true then xpV (pwrT e) else 0)=e
   rw [if_pos (by decide)]
   unfold xpV
   rw [es,ok,en,hv,if_pos rfl]
   by_cases c:e<0
   ·rw [if_pos (decide_eq_true c)];omega
   ·rw [if_neg (by rw [decide_eq_false c];decide)];omega
theorem rd_form (neg:Bool) (I F P T:List UInt8) (e:Int) (hI:AllDg I) (hI0:I≠ []) (hF:AllDg F) (hP:PwOk P e) (hT:T=dsh neg (I++((if F= [] then [] else 46::F)++P))) (hl:T.length≤1000):
 rdE T=0∧rdN T=neg∧rdD T=((I++F).dropWhile fun b=>b==48)∧(rdD T≠ []→rdK T=e-(F.length:Int)):=by
 obtain ⟨p1,p2⟩:=pw_read hP
 have hPh: ∀b r,P=b::r→b=101:=fun b r h=>by
  rcases hP with ⟨h1,-⟩|⟨h1,-⟩
  ·rw [h1] at h;cases h
  ·rw [h1] at h;injection h with h2 h3;exact h2.symm
 obtain ⟨Q,hQ⟩: ∃Q,Q=(if F= [] then [] else 46::F)++P:=⟨_,rfl⟩
 rw [←hQ] at hT
 have hQh: ∀b r,Q=b::r→isDg b=false:=fun b r h=>by
  rw [hQ] at h
  by_cases c:F= []
  ·rw [if_pos c,List.nil_append] at h;rw [hPh b r h];decide
  ·rw [if_neg c] at h;injection h with h2 h3;rw [←h2];decide
 obtain ⟨b0,I',hbI⟩: ∃b r,I=b::r:=by
  cases I with
  |nil=>exact absurd rfl hI0
  |cons b r=>exact ⟨b,r,rfl⟩
 have hb0:=hI b0 (by rw [hbI];exact List.mem_cons_self ..)
 have hpre:Lib.hasPrefix (I++Q) [45]=false:=by
  rw [Bool.eq_false_iff];intro h9
  obtain ⟨r,hr⟩:=(hpx_iff _ _).1 h9
  rw [hbI] at hr;injection hr with h2 h3
  rw [h2] at hb0;exact absurd hb0 (by decide)
 have eN:Lib.hasPrefix T [45]=neg:=by
  rw [hT];unfold dsh
  cases neg
  ·exact hpre
  ·rfl
 have eT:rdT T=I++Q:=by
  unfold rdT
  rw [trimPrefix_one,eN,hT]
  cases neg
  ·rfl
  ·rfl
 obtain ⟨t1,t2⟩:=tw_app isDg I Q hI hQh
 have tk:tkD (rdT T)=I:=by rw [eT];exact t1
 have dp:dpD (rdT T)=Q:=by rw [eT];exact t2
 obtain ⟨u1,u2⟩:=tw_app isDg F P hF (fun b r h=>by rw [hPh b r h];decide)
 have hpt:rPt Q=decide (F≠ []):=by
  unfold rPt
  rw [hQ]
  by_cases c:F= []
  ·rw [if_pos c,List.nil_append,decide_eq_false (by simpa using c),Bool.eq_false_iff]
   intro h9
   obtain ⟨r,hr⟩:=(hpx_iff _ _).1 h9
   exact absurd (hPh _ _ hr) (by decide)
  ·rw [if_neg c,decide_eq_true c];rfl
 have ePt:rPart Q=F∧rRest Q=P:=by
  unfold rPart rRest
  rw [hpt]
  by_cases c:F= []
  ·rw [decide_eq_false (by simpa using c),if_neg (by decide),if_neg (by decide),c]
   refine ⟨rfl,?_⟩
   rw [hQ,if_pos c];rfl
  ·rw [decide_eq_true c,if_pos rfl,if_pos rfl,hQ,if_neg c]
   exact ⟨u1,u2⟩
 have eA:rAll T=I++F:=by unfold rAll;rw [tk,dp,ePt.1]
 have eP:rPw T=P:=by unfold rPw;rw [dp,ePt.2]
 have eE:rdE T=0:=by
  unfold rdE
  rw [if_neg (by omega),eP,eA,p1,if_neg]
  rintro (h|h)
  ·cases h
  ·rw [hbI] at h;cases h
 have eD:rD T=((I++F).dropWhile fun b=>b==48):=by unfold rD;rw [eA]
 refine ⟨eE,by unfold rdN;rw [if_pos eE,eN],by unfold rdD;rw [if_pos eE,eD],fun hne=>?_⟩
 unfold rdD at hne
 rw [if_pos eE] at hne
 unfold rdK
 rw [if_pos ⟨eE,hne⟩,eP,p2,dp,ePt.1]
theorem num_fit (neg:Bool) (M:Nat) (e:Int) (A B r:Nat) (ok:RdOk A B M e) (hB:0<B) (hr:1≤r) (hr2:r<9218868437227405312) (h:fitR 1074 A B r):numX neg M e 0=(r:Int)+sgb neg:=by
 obtain ⟨hM,s,hs,SC⟩:=ok
 obtain ⟨l,l1,l2,l3⟩:=rd_exists 1074 A B 9218868437227405312 (by omega)
 have g:=(read_sg neg M e 0 1074 A B s l (by omega) (by omega) hM hs SC (by omega) l2 (by rcases l3 with h|h;exact .inl (by omega);exact .inr h)).1
 have e0:(if neg=true then swM 0 else 0)=0:=by cases neg<;>rfl
 rw [e0,(read_fits 1074 A B r l hB hr hr2 l1 l2 l3).2 h] at g
 exact g
theorem fit_exact (A B r:Nat) (hB:0<B) (hr:1≤r) (h:A*2^1074=rvi r*B):fitR 1074 A B r:=by
 have g1:=rdM_nat 1074 A B (r-1)
 have g2:=rdM_nat 1074 A B r
 rw [show ((r-1:Nat):Int)=(r:Int)-1 by omega,show r-1+1=r by omega] at g1
 obtain ⟨V,hV⟩: ∃V,V=A*2^1074:=⟨_,rfl⟩
 rw [←hV] at g1 g2 h
 clear hV
 have m1:rvi (r-1)*B<rvi r*B:=Nat.mul_lt_mul_of_pos_right (rvi_mono (by omega)) hB
 have m2:rvi r*B<rvi (r+1)*B:=Nat.mul_lt_mul_of_pos_right (rvi_mono (by omega)) hB
 unfold fitR
 rw [g1,g2]
 left
 exact ⟨(cmpI_ng _ _).2 (by omega),(cmpI_ps _ _).2 (by omega)⟩
theorem fit_near (A B C r:Nat) (hB:0<B) (hr:1≤r) (h1:10000000000000000*C≤rvi r*B) (hC:0<C) (h2:2*(A*2^1074)≤2*(rvi r*B)+C) (h3:2*(rvi r*B)≤2*(A*2^1074)+C):fitR 1074 A B r:=by
 have g1:=rdM_nat 1074 A B (r-1)
 have g2:=rdM_nat 1074 A B r
 rw [show ((r-1:Nat):Int)=(r:Int)-1 by omega,show r-1+1=r by omega] at g1
 obtain ⟨V,hV⟩: ∃V,V=A*2^1074:=⟨_,rfl⟩
 rw [←hV] at g1 g2 h2 h3
 clear hV
 obtain ⟨q,t,e1,e2,e3⟩:=rvi_rep3 r
 obtain ⟨q',t',d1,d2,d3⟩:=rvi_rep3 (r-1)
 rw [show r-1+1=r by omega] at d2
 have u1:C<2^t*B:=by
  rw [e1] at h1
  have k:q*2^t*B≤9007199254740992*(2^t*B):=by rw [Nat.mul_assoc];exact Nat.mul_le_mul_right _ (by omega)
  omega
 have u2:C<2^t'*B:=by
  rw [d2] at h1
  have k:(q'+1)*2^t'*B≤9007199254740992*(2^t'*B):=by rw [Nat.mul_assoc];exact Nat.mul_le_mul_right _ (by omega)
  omega
 have w1:rvi (r+1)*B=rvi r*B+2^t*B:=by rw [e2,e1,Nat.add_mul,Nat.add_mul,Nat.one_mul]
 have w2:rvi r*B=rvi (r-1)*B+2^t'*B:=by rw [d2,d1,Nat.add_mul,Nat.add_mul,Nat.one_mul]
 unfold fitR
 rw [g1,g2]
 left
 exact ⟨(cmpI_ng _ _).2 (by omega),(cmpI_ps _ _).2 (by omega)⟩
theorem rtN_near (a b:Nat) (hb:0<b):2*(rtN false a b 0*b)≤2*a+b∧2*a≤2*(rtN false a b 0*b)+b:=by
 have h:=Nat.div_add_mod a b
 have hm:=Nat.mod_lt a hb
 rw [Nat.mul_comm] at h
 unfold rtN
 split
 ·rename_i hc
  have hu: ¬2*(a%b)<b:=fun hlt=>by
   have h2:=hc.2
   rw [cmpN_lt hlt] at h2
   revert h2
   cases decide (a/b%2=1)<;>decide
  rw [Nat.add_mul,Nat.one_mul]
  omega
 ·rename_i hc
  have hu: ¬b<2*(a%b):=fun hlt=>hc ⟨by omega,by
   rw [cmpN_gt hlt]
   cases decide (a/b%2=1)<;>decide⟩
  omega
theorem tn_at (pd:Int):10^(-(pd-16)).toNat=tnN ((16:Nat)-pd)∧10^(pd-16).toNat=tnN (-((16:Nat)-pd)):=by
 unfold tnN
 exact ⟨by congr 1;omega,by congr 1;omega⟩
theorem sci_arith (S T U a b P v:Nat) (hb:0<b) (hv:a*P=v*b) (h1:10000000000000000*(b*U)≤a*T) (n1:2*(S*(b*U))≤2*(a*T)+b*U) (n2:2*(a*T)≤2*(S*(b*U))+b*U):
 10000000000000000*(U*P)≤v*T∧2*(S*U*P)≤2*(v*T)+U*P∧2*(v*T)≤2*(S*U*P)+U*P:=by
 have e0:v*T*b=a*T*P:=by rw [Nat.mul_right_comm,←hv,Nat.mul_right_comm]
 have e1:U*P*b=b*U*P:=by rw [Nat.mul_right_comm,Nat.mul_comm U b]
 have e2:S*U*P*b=S*(b*U)*P:=by rw [Nat.mul_right_comm,Nat.mul_assoc S U b,Nat.mul_comm U b]
 have k1:=Nat.mul_le_mul_right P h1
 have k2:=Nat.mul_le_mul_right P n1
 have k3:=Nat.mul_le_mul_right P n2
 refine ⟨Nat.le_of_mul_le_mul_right ?_ hb,Nat.le_of_mul_le_mul_right ?_ hb,Nat.le_of_mul_le_mul_right ?_ hb⟩
 ·rw [Nat.mul_assoc,e1,e0,←Nat.mul_assoc];exact k1
 ·rw [Nat.add_mul,Nat.mul_assoc 2,Nat.mul_assoc 2] at k2
  rw [Nat.mul_assoc 2,e2,Nat.add_mul,Nat.mul_assoc 2,e0,e1];exact k2
 ·rw [Nat.add_mul,Nat.mul_assoc 2,Nat.mul_assoc 2] at k3
  rw [Nat.mul_assoc 2,e0,Nat.add_mul,Nat.mul_assoc 2,e2,e1];exact k3
theorem fit_sci (a b r:Nat) (pd:Int) (hb:0<b) (hd:IsDec a b pd) (hr:1≤r) (hv:a*2^1074=rvi r*b):
 fitR 1074 (sciQ false a b 16 pd 0*10^(pd-16).toNat) (10^(-(pd-16)).toNat) r:=by
 rw [(tn_at pd).1,(tn_at pd).2]
 have hTp:=tnN_pos ((16:Nat)-pd)
 have hUp:=tnN_pos (-((16:Nat)-pd))
 have eS:sciQ false a b 16 pd 0=rtN false (a*tnN ((16:Nat)-pd)) (b*tnN (-((16:Nat)-pd))) 0:=rfl
 have h1:=hd.1
 rw [lessT_tens a b pd 16] at h1
 have h1:=of_decide_eq_false h1
 generalize tnN ((16:Nat)-pd)=T at *
 generalize tnN (-((16:Nat)-pd))=U at *
 have e16:(10:Nat)^16=10000000000000000:=by decide
 rw [e16] at h1
 obtain ⟨n1,n2⟩:=rtN_near (a*T) (b*U) (Nat.mul_pos hb hUp)
 rw [eS]
 generalize rtN false (a*T) (b*U) 0=S at *
 obtain ⟨P,hKp,hP⟩:=p1074
 rw [←hP] at hv
 obtain ⟨k1,k2,k3⟩:=sci_arith S T U a b P _ hb hv (Nat.le_of_not_lt h1) n1 n2
 exact fit_near (S*U) T (U*P) r hTp hr k1 (Nat.mul_pos hUp hKp) (by rw [←hP];exact k2) (by rw [←hP];exact k3)
theorem ten_big (n:Nat):2^(33*n)≤10^(10*n):=by
 rw [Nat.pow_mul,Nat.pow_mul 10 10 n];exact Nat.pow_le_pow_left (by decide) n
theorem dec_rank (E f:Nat) (hf:f<4503599627370496) (hE:E<2047) (hr:1≤E*4503599627370496+f):
 ∃pd:Int,IsDec (dA (rkD ((E*4503599627370496+f:Nat):Int))) (dB (rkD ((E*4503599627370496+f:Nat):Int))) pd∧ -330≤pd∧pd≤320:=by
 obtain ⟨r,hr2⟩: ∃r,r=E*4503599627370496+f:=⟨_,rfl⟩
 rw [←hr2]
 have hv:=(val_parts E f hf).2
 rw [←hr2] at hv
 have h1:=(rvi_lm E f hf).1
 rw [←hr2] at h1
 unfold IsVal at hv
 rw [←h1] at hv
 have hDb: -1074≤(rkD (r:Int)).2:=by
  rw [←rkD_fv (r:Int) (by omega) (by omega)];exact (fv_bd (r:Int) (by omega) (by omega)).2.2.1
 have hb0:=dB_pos (rkD (r:Int))
 obtain ⟨K,hK⟩: ∃K:Nat,K=1074:=⟨_,rfl⟩
 have hbK:dB (rkD (r:Int))≤2^K:=by
  unfold dB;exact Nat.pow_le_pow_right (by omega) (by omega)
 rw [←hK] at hv
 obtain ⟨F,hF,hF2⟩:=rvi_tv
 have hlt:rvi r<2^F:=by rw [←hF2];exact rvi_mono (by omega)
 have hpos:0<rvi r:=by have:=rvi_mono (m:=0) (n:=r) (by omega);omega
 generalize dA (rkD (r:Int))=a at *
 generalize dB (rkD (r:Int))=b at *
 have ha0:0<a:=by
  rcases Nat.eq_zero_or_pos a with h|h
  ·rw [h,Nat.zero_mul] at hv
   have:=Nat.mul_pos hpos hb0
   omega
  ·exact h
 obtain ⟨M,hM⟩: ∃M:Nat,M=F-K:=⟨_,rfl⟩
 have hup:a<2^M*b:=by
  have h2:a*2^K<2^F*b:=by rw [hv];exact Nat.mul_lt_mul_of_pos_right hlt hb0
  rw [show F=M+K by omega,Nat.pow_add,Nat.mul_right_comm] at h2
  exact Nat.lt_of_mul_lt_mul_right h2
 obtain ⟨N,hN⟩: ∃N:Nat,N=M+K+1:=⟨_,rfl⟩
 have haN:a<2^N:=by
  refine Nat.lt_of_lt_of_le hup ?_
  rw [hN,Nat.add_assoc,Nat.pow_add]
  exact Nat.mul_le_mul_left _ (Nat.le_trans hbK (Nat.pow_le_pow_right (by omega) (by omega)))
 have hbN:b<2^N:=Nat.lt_of_le_of_lt hbK (Nat.pow_lt_pow_right (by omega) (by omega))
 obtain ⟨pd,k1,k2,k3⟩:=dec_exists a b N ha0 hb0 haN hbN
 refine ⟨pd,k1,?_,?_⟩
 ·rcases Int.lt_or_le pd (-330) with h|h
  ·exfalso
   have h3:=k1.2
   unfold lessT at h3
   have h3:=of_decide_eq_true h3
   obtain ⟨J,hJ⟩: ∃J:Nat,J=(-(pd+1)).toNat:=⟨_,rfl⟩
   unfold tnN at h3
   rw [←hJ,show (pd+1).toNat=0 by omega,Nat.pow_zero,Nat.mul_one] at h3
   obtain ⟨q,hq⟩: ∃q:Nat,q=33:=⟨_,rfl⟩
   have h4:10^(10*q)≤10^J:=Nat.pow_le_pow_right (by omega) (by omega)
   have h5:=ten_big q
   have h6:2^K≤2^(33*q):=Nat.pow_le_pow_right (by omega) (by omega)
   have h7:1*10^J≤a*10^J:=Nat.mul_le_mul_right _ ha0
   omega
  ·exact h
 ·rcases Int.lt_or_le 320 pd with h|h
  ·exfalso
   have h3:=k1.1
   unfold lessT at h3
   have h3:=of_decide_eq_false h3
   obtain ⟨J,hJ⟩: ∃J:Nat,J=pd.toNat:=⟨_,rfl⟩
   unfold tnN at h3
   rw [←hJ,show (-pd).toNat=0 by omega,Nat.pow_zero,Nat.mul_one] at h3
   obtain ⟨q,hq⟩: ∃q:Nat,q=32:=⟨_,rfl⟩
   have h4:10^(10*q)≤10^J:=Nat.pow_le_pow_right (by omega) (by omega)
   have h5:=ten_big q
   have h6:2^M≤2^(33*q):=Nat.pow_le_pow_right (by omega) (by omega)
   have h7:2^M*b≤10^J*b:=Nat.mul_le_mul_right _ (by omega)
   rw [Nat.mul_comm (10^J)] at h7
   omega
  ·exact h
theorem sh_first (D:Dy) (E f:Nat) (pd:Int) (K:Nat) (h:shS D E f K pd=true): ∃k,k≤K∧(∀j,j<k→shS D E f j pd=false)∧shS D E f k pd=true:=by
 induction K using Nat.strongRecOn with
 |ind K ih=>
  by_cases h1: ∃j,j<K∧shS D E f j pd=true
  ·obtain ⟨j,h2,h3⟩:=h1
   obtain ⟨k,h4,h5⟩:=ih j h2 h3
   exact ⟨k,by omega,h5⟩
  ·refine ⟨K,Nat.le_refl _,fun j hj=>?_,h⟩
   cases h2:shS D E f j pd
   ·rfl
   ·exact absurd ⟨j,hj,h2⟩ h1
theorem sh_uniq {D:Dy} {E f:Nat} {pd:Int} {k l:Nat} (h1: ∀j,j<k→shS D E f j pd=false) (h2:shS D E f k pd=true) (h3: ∀j,j<l→shS D E f j pd=false) (h4:shS D E f l pd=true):k=l:=by
 rcases Nat.lt_trichotomy k l with h|h|h
 ·have:=h3 k h;rw [h2] at this;cases this
 ·exact h
 ·have:=h1 l h;rw [h4] at this;cases this
end Go.Ulp
namespace Go.Proofs.YtfphmlmgjhebjaaGreatDoor
open Go.RowKit Go.Ulp
set_option maxHeartbeats 2000000
set_option maxRecDepth 100000
end Go.Proofs.YtfphmlmgjhebjaaGreatDoor
namespace Go.Ulp
open Go.RowKit
def V8 (w:World) (g:Nat) (c:Array Value):Prop:= ∀i,i<8→w.cell? ⟨g,i,none⟩=some (c.getD i undef)∧w.frozen? ⟨g,i,none⟩=false
theorem V8.lt {w:World} {g:Nat} {c:Array Value} (h:V8 w g c):g<w.heap.size:=World.block_lt_of_cell? w _ (h 0 (by omega)).1
theorem V8.below {w w':World} {g:Nat} {c:Array Value} (h:V8 w g c) (hb:Below w.heap.size w w'):V8 w' g c:=fun i hi=>
 ⟨(hb.cell (p:=⟨g,i,none⟩) h.lt).trans (h i hi).1,(hb.frozen (p:=⟨g,i,none⟩) h.lt).trans (h i hi).2⟩
theorem V8.made {w:World} {g:Nat} {a b c d e f m n:Value} {t:TypeId} (hg:g=w.heap.size):V8 (w.alloc (.cells #[a,b,c,d,e,f,m,n] t)) g #[a,b,c,d,e,f,m,n]:=by
 subst hg
 intro i hi
 have hh:(w.alloc (.cells #[a,b,c,d,e,f,m,n] t)).frozen? ⟨w.heap.size,i,none⟩=false:=by unfold World.frozen?;rw [heap_alloc_new];simp
 refine ⟨?_,hh⟩
 rcases (show i=0∨i=1∨i=2∨i=3∨i=4∨i=5∨i=6∨i=7 by omega) with e|e|e|e|e|e|e|e<;>subst e<;>(rw [World.cell?_alloc_at (hn:=rfl)];rfl)
theorem V8.far {w:World} {g:Nat} {c:Array Value} (h:V8 w g c) (a:Addr) (u:Value) (hne:g≠a.block):V8 (w.setCell a u) g c:=fun i hi=>
 ⟨by rw [World.cell?_setCell_other (h:=fun e=>hne (by rw [e]))];exact (h i hi).1,by rw [frozen_setCell];exact (h i hi).2⟩
theorem V8.set {w:World} {g:Nat} {c:Array Value} (h:V8 w g c) (hc:c.size=8) (o:Nat) (ho:o<8) (u:Value):V8 (w.setCell ⟨g,o,none⟩ u) g (c.setIfInBounds o u):=by
 intro i hi
 refine ⟨?_,by rw [frozen_setCell];exact (h i hi).2⟩
 by_cases e:i=o
 ·subst e
  rw [World.cell?_setCell_same (w:=w) _ _ (h i hi).1]
  simp [Array.getD_eq_getD_getElem?,hc,hi]
 ·rw [World.cell?_setCell_other (h:=fun k=>e (by injection k with _ k;exact k.symm))]
  rw [(h i hi).1]
  simp [Array.getD_eq_getD_getElem?,Array.getElem?_setIfInBounds,Ne.symm e]
theorem V8.cells {w:World} {g:Nat} {a b c d e f m n:Value} (h:V8 w g #[a,b,c,d,e,f,m,n]):
 (w.cell? ⟨g,0,none⟩=some a∧w.cell? ⟨g,1,none⟩=some b∧w.cell? ⟨g,2,none⟩=some c∧w.cell? ⟨g,3,none⟩=some d∧w.cell? ⟨g,4,none⟩=some e∧w.cell? ⟨g,5,none⟩=some f∧w.cell? ⟨g,6,none⟩=some m∧w.cell? ⟨g,7,none⟩=some n)∧
 (w.frozen? ⟨g,0,none⟩=false∧w.frozen? ⟨g,1,none⟩=false∧w.frozen? ⟨g,2,none⟩=false∧w.frozen? ⟨g,3,none⟩=false∧w.frozen? ⟨g,4,none⟩=false∧w.frozen? ⟨g,5,none⟩=false∧w.frozen? ⟨g,6,none⟩=false∧w.frozen? ⟨g,7,none⟩=false):=
 ⟨⟨(h 0 (by omega)).1,(h 1 (by omega)).1,(h 2 (by omega)).1,(h 3 (by omega)).1,(h 4 (by omega)).1,(h 5 (by omega)).1,(h 6 (by omega)).1,(h 7 (by omega)).1⟩,
  ⟨(h 0 (by omega)).2,(h 1 (by omega)).2,(h 2 (by omega)).2,(h 3 (by omega)).2,(h 4 (by omega)).2,(h 5 (by omega)).2,(h 6 (by omega)).2,(h 7 (by omega)).2⟩⟩
end Go.Ulp
namespace Go.Proofs.YtfphmlmgjhebjaaGreatDoor
open Go.RowKit Go.Ulp
set_option maxHeartbeats 8000000
set_option maxRecDepth 100000
def PW (w W:World) (g2 g5:Nat) (c:Array Value):Prop:=Below w.heap.size w W∧V8 W g2 #[.int .i64 0,.bool false,.bool false,.bool false,.bool false,.bool false,.int .i64 0,.int .i64 0]∧V8 W g5 c
theorem PW.below {w W W':World} {g2 g5:Nat} {c:Array Value} (h:PW w W g2 g5 c) (hb:Below W.heap.size W W'):PW w W' g2 g5 c:=⟨h.1.trans (hb.mono h.1.size),h.2.1.below hb,h.2.2.below hb⟩
theorem PW.set {w W:World} {g2 g5:Nat} {c:Array Value} (h:PW w W g2 g5 c) (hc:c.size=8) (hw:w.heap.size≤g5) (hne:g2≠g5) (o:Nat) (ho:o<8) (u:Value):PW w (W.setCell ⟨g5,o,none⟩ u) g2 g5 (c.setIfInBounds o u):=
 ⟨h.1.setCell hw u,h.2.1.far _ _ hne,h.2.2.set hc o ho u⟩
end Go.Proofs.YtfphmlmgjhebjaaGreatDoor
namespace Go.Ulp
open Go.RowKit
def aheadB (c:UInt8) (L:List UInt8):List UInt8:=L.takeWhile (fun b=>b !=c)
def fromB (c:UInt8) (L:List UInt8):List UInt8:=L.dropWhile (fun b=>b !=c)
theorem ahead_from (c:UInt8) (L:List UInt8):aheadB c L++fromB c L=L:=List.takeWhile_append_dropWhile
theorem ahead_len (c:UInt8) (L:List UInt8):(aheadB c L).length≤L.length:=by have:=congrArg List.length (ahead_from c L);rw [List.length_append] at this;omega
theorem ib_spec (c:UInt8): ∀L:List UInt8,(L.contains c=true→Lib.indexByte L c=((aheadB c L).length:Int))∧(L.contains c=false→Lib.indexByte L c= -1∧aheadB c L=L)
 | []=>⟨fun h=>by simp at h,fun _=>⟨rfl,rfl⟩⟩
 |b::l=>by
  obtain ⟨i1,i2⟩:=ib_spec c l
  by_cases hb:b=c
  ·subst hb
   refine ⟨fun _=>?_,fun h=>by simp at h⟩
   unfold Lib.indexByte aheadB
   rw [if_pos (by simp),List.takeWhile_cons,if_neg (by simp)];rfl
  ·have hne:(b !=c)=true:=by simpa using hb
   have he:(b==c)=false:=beq_eq_false_iff_ne.2 hb
   have hc:(b::l).contains c=l.contains c:=by
    rw [List.contains_cons,show (c==b)=false from beq_eq_false_iff_ne.2 (fun h=>hb h.symm),Bool.false_or]
   rw [hc]
   constructor
   ·intro h
    have h1:=i1 h
    unfold Lib.indexByte
    rw [he,h1]
    unfold aheadB
    rw [List.takeWhile_cons,if_pos hne,List.length_cons]
    have h2:((((List.takeWhile (fun b=>b !=c) l).length:Nat):Int)== -1)=false:=by rw [beq_eq_false_iff_ne];omega
    simp [h2]
   ·intro h
    obtain ⟨h1,h2⟩:=i2 h
    refine ⟨?_,?_⟩
    ·unfold Lib.indexByte;rw [he,h1];rfl
    ·unfold aheadB at h2 ⊢;rw [List.takeWhile_cons,if_pos hne,h2]
theorem ib_has (c:UInt8) (L:List UInt8):decide (0≤Lib.indexByte L c)=L.contains c:=by
 obtain ⟨a,b⟩:=ib_spec c L
 cases h:L.contains c
 ·rw [(b h).1];rfl
 ·rw [a h];exact decide_eq_true (by omega)
theorem ib_cut (c:UInt8) (L:List UInt8):(if Lib.indexByte L c<0 then (L.length:Int) else Lib.indexByte L c)=((aheadB c L).length:Int):=by
 obtain ⟨a,b⟩:=ib_spec c L
 cases h:L.contains c
 ·rw [(b h).1,if_pos (by decide),(b h).2]
 ·rw [a h,if_neg (by omega)]
theorem take_ahead (c:UInt8) (L:List UInt8):L.take (aheadB c L).length=aheadB c L:=by
 have h:=List.take_left (l₁:=aheadB c L) (l₂:=fromB c L)
 rw [ahead_from] at h;exact h
theorem drop_ahead (c:UInt8) (L:List UInt8):L.drop (aheadB c L).length=fromB c L:=by
 have h:=List.drop_left (l₁:=aheadB c L) (l₂:=fromB c L)
 rw [ahead_from] at h;exact h
def wzM (M:List UInt8):List UInt8:=if M.contains 46=true then Lib.trimSuffix (Lib.trimRightB M 48) [46] else M
def wzT (L:List UInt8):List UInt8:=wzM (aheadB 101 L)++fromB 101 L
theorem trimR_len (M:List UInt8) (c:UInt8):(Lib.trimRightB M c).length≤M.length:=by
 unfold Lib.trimRightB
 rw [List.length_reverse]
 have h:=congrArg List.length (List.takeWhile_append_dropWhile (p:=(· ==c)) (l:=M.reverse))
 rw [List.length_append,List.length_reverse] at h
 omega
def sgW (x:Int) (plus blank:Bool):List UInt8:=if negB x=true∧classOf x≠5 then [45] else if plus=true then [43] else if blank=true then [32] else []
end Go.Ulp
namespace Go.Proofs.YtfphmlmgjhebjaaGreatDoor
open Go.RowKit Go.Ulp
set_option maxHeartbeats 4000000
set_option maxRecDepth 100000
theorem shortW_any (L:List UInt8) (w:World) (hl:L.length≤1000000):
 Calls Tryz.prog 186 #[.string (bsOf L)] w fun e w'=>e=.returned (.string (bsOf (wzT L)))∧w=w':=by
 have IB:=hid (fun w=>Tryz.strings_IndexByte (bsOf L) 101 w)
 rw [bs_list] at IB
 obtain ⟨ib,hib⟩: ∃z,z=Lib.indexByte L 101:=⟨_,rfl⟩
 have hIB:Hid (∀w,Calls Tryz.prog 66 #[.string (bsOf L),.int .u8 101] w fun e w'=>e=.returned (.int .i64 ib)∧w=w'):=hid (fun w=>(IB.out w).mono (by rintro e w' ⟨rfl,rfl⟩;exact ⟨by rw [hib];rfl,rfl⟩))
 have hcut:=ib_cut 101 L
 rw [←hib] at hcut
 obtain ⟨M,hM⟩: ∃M,M=aheadB 101 L:=⟨_,rfl⟩
 obtain ⟨T,hT⟩: ∃T,T=fromB 101 L:=⟨_,rfl⟩
 have lM:M.length≤L.length:=by rw [hM];exact ahead_len _ _
 rw [←hM] at hcut
 have hst:=slice_to (P:=Tryz.prog) Tryz.underlying9 L (M.length:Int) (by omega) (by omega)
 have hsf:=slice_from (P:=Tryz.prog) Tryz.underlying9 L (M.length:Int) (by omega) (by omega)
 rw [Int.toNat_natCast,hM,take_ahead,←hM] at hst
 rw [Int.toNat_natCast,hM,drop_ahead,←hM,←hT] at hsf
 have CT:=hid (fun w=>Tryz.strings_Contains_one (bsOf M) 46 w)
 have hCT:Hid (∀w,Calls Tryz.prog 74 #[.string (bsOf M),.string ⟨#[46]⟩] w fun e w'=>e=.returned (.bool (M.contains 46))∧w=w'):=hid (fun w=>(CT.out w).mono (by rintro e w' ⟨rfl,rfl⟩;exact ⟨by rw [bs_list,ib_has],rfl⟩))
 have TR:=hid (fun w=>Tryz.strings_TrimRight_one (bsOf M) 48 (by decide) w (by rw [bs_size];omega))
 rw [bs_list] at TR
 obtain ⟨R,hR⟩: ∃R,R=Lib.trimRightB M 48:=⟨_,rfl⟩
 have lR:R.length≤M.length:=by rw [hR];exact trimR_len _ _
 have hTR:Hid (∀w,Calls Tryz.prog 167 #[.string (bsOf M),.string ⟨#[48]⟩] w fun e w'=>e=.returned (.string (bsOf R))∧w=w'):=hid (fun w=>(TR.out w).mono (by rintro e w' ⟨rfl,rfl⟩;exact ⟨by rw [hR];rfl,rfl⟩))
 have TS:=hid (fun w=>Tryz.strings_TrimSuffix (bsOf R) ⟨#[46]⟩ w (by rw [bs_size];omega))
 rw [bs_list] at TS
 have hTS:Hid (∀w,Calls Tryz.prog 208 #[.string (bsOf R),.string ⟨#[46]⟩] w fun e w'=>e=.returned (.string (bsOf (Lib.trimSuffix R [46])))∧w=w'):=hid (fun w=>(TS.out w).mono (by rintro e w' ⟨rfl,rfl⟩;exact ⟨rfl,rfl⟩))
 have hsz:=bs_size L
 have hres:wzT L=(if M.contains 46=true then Lib.trimSuffix R [46] else M)++T:=by unfold wzT wzM;rw [←hM,←hT,←hR]
 have HRS:=hid hres
 obtain ⟨k,hk⟩: ∃k,k=M.contains 46:=⟨_,rfl⟩
 rw [←hk] at hCT HRS
 obtain ⟨n,hn⟩: ∃n:Int,n=(M.length:Int):=⟨_,rfl⟩
 rw [←hn] at hcut hst hsf
 have sM:(bsOf M).size≤1000000:=by rw [bs_size];omega
 have sT:(bsOf T).size≤1000000:=by
  rw [bs_size,hT];have:=congrArg List.length (ahead_from 101 L);rw [List.length_append] at this;omega
 have sR:(bsOf (Lib.trimSuffix R [46])).size≤1000000:=by
  rw [bs_size];unfold Lib.trimSuffix;split
  ·rw [List.length_take];omega
  ·omega
 have a1:=bs_app (Lib.trimSuffix R [46]) T
 have a2:=bs_app M T
 generalize Lib.trimSuffix R [46]=R2 at *
 obtain ⟨ln,hln⟩: ∃l:Int,l=(L.length:Int):=⟨_,rfl⟩
 rw [←hln] at hcut
 have hsz2:((bsOf L).size:Int)=ln:=by rw [hsz,hln]
 generalize hQ:bsOf L=Q at *
 clear IB CT TR TS hres hk hib hM hT hR lM lR hsz hln hn hQ
 cases k
 ·by_cases h0:ib<0
  ·rw [if_pos h0] at hcut
   subst hcut
   go_enter Tryz.func186,Tryz.ntmps186
   go_wp2_with (first
    |(go_at_call 66;(with_reducible refine (hIB.out _).mono ?_);rintro en w1 ⟨rfl,rfl⟩)
    |(go_at_call 74;(with_reducible refine (hCT.out _).mono ?_);rintro en w1 ⟨rfl,rfl⟩))
   go_ret
   exact ⟨by rw [HRS.out];first|rfl|(rw [a2];rfl),rfl⟩
  ·rw [if_neg h0] at hcut
   subst hcut
   go_enter Tryz.func186,Tryz.ntmps186
   go_wp2_with (first
    |(go_at_call 66;(with_reducible refine (hIB.out _).mono ?_);rintro en w1 ⟨rfl,rfl⟩)
    |(go_at_call 74;(with_reducible refine (hCT.out _).mono ?_);rintro en w1 ⟨rfl,rfl⟩))
   go_ret
   exact ⟨by rw [HRS.out];first|rfl|(rw [a2];rfl),rfl⟩
 ·by_cases h0:ib<0
  ·rw [if_pos h0] at hcut
   subst hcut
   go_enter Tryz.func186,Tryz.ntmps186
   go_wp2_with (first
    |(go_at_call 66;(with_reducible refine (hIB.out _).mono ?_);rintro en w1 ⟨rfl,rfl⟩)
    |(go_at_call 74;(with_reducible refine (hCT.out _).mono ?_);rintro en w1 ⟨rfl,rfl⟩)
    |(go_at_call 167;(with_reducible refine (hTR.out _).mono ?_);rintro en w1 ⟨rfl,rfl⟩)
    |(go_at_call 208;(with_reducible refine (hTS.out _).mono ?_);rintro en w1 ⟨rfl,rfl⟩))
   go_ret
   exact ⟨by rw [HRS.out];first|rfl|(rw [a1];rfl),rfl⟩
  ·rw [if_neg h0] at hcut
   subst hcut
   go_enter Tryz.func186,Tryz.ntmps186
   go_wp2_with (first
    |(go_at_call 66;(with_reducible refine (hIB.out _).mono ?_);rintro en w1 ⟨rfl,rfl⟩)
    |(go_at_call 74;(with_reducible refine (hCT.out _).mono ?_);rintro en w1 ⟨rfl,rfl⟩)
    |(go_at_call 167;(with_reducible refine (hTR.out _).mono ?_);rintro en w1 ⟨rfl,rfl⟩)
    |(go_at_call 208;(with_reducible refine (hTS.out _).mono ?_);rintro en w1 ⟨rfl,rfl⟩))
   go_ret
   exact ⟨by rw [HRS.out];first|rfl|(rw [a1];rfl),rfl⟩
end Go.Proofs.YtfphmlmgjhebjaaGreatDoor
namespace Go.Ulp
open Go.RowKit
def scZ (x:Int) (k:Nat) (pd mode:Int):Nat:=if (fv x).1=0 then 0 else if 10^(k+1)≤scQ x k pd mode then scQ x k pd mode/10 else scQ x k pd mode
theorem scS_pad (x:Int) (k:Nat) (pd mode:Int) (hp:(fv x).1≠0→IsDec (dA (fv x)) (dB (fv x)) pd):padz (k+1) (decD (scZ x k pd mode))=scS x k pd mode∧(scS x k pd mode).length=k+1:=by
 unfold scZ scS
 by_cases hz:(fv x).1=0
 ·rw [if_pos hz,if_pos hz]
  exact ⟨padz_dec_zero k,List.length_replicate ..⟩
 ·rw [if_neg hz,if_neg hz]
  obtain ⟨q1,q2⟩:=sciQ_bd (negB x) (dA (fv x)) (dB (fv x)) k pd mode (dB_pos _) (hp hz)
  have h1:=sciD_len (scQ x k pd mode) k q1 q2
  refine ⟨?_,h1⟩
  have e:decD (if 10^(k+1)≤scQ x k pd mode then scQ x k pd mode/10 else scQ x k pd mode)=sciD (scQ x k pd mode) k:=by
   unfold sciD;split<;>rfl
  rw [e,padz_long _ _ (by omega)]
end Go.Ulp
namespace Go.Proofs.YtfphmlmgjhebjaaGreatDoor
open Go.RowKit Go.Ulp
set_option maxHeartbeats 4000000
set_option maxRecDepth 100000
end Go.Proofs.YtfphmlmgjhebjaaGreatDoor
namespace Go.Ulp
open Go.RowKit
theorem QW.zv {tq ti:TypeId} {w:World} {g:Nat} {D:Dy} {A T:Nat} {X:Int} {n:Nat} {ao:Option Addr} {cap:Nat} (h:QW tq ti w g D A T X n ao cap) (hN:Nz ti w ao cap (zl X)):ZV tq ti w g X:=⟨ao,cap,h.1.1,hN⟩
end Go.Ulp
namespace Go.Proofs.YtfphmlmgjhebjaaGreatDoor
open Go.RowKit Go.Ulp
set_option maxHeartbeats 2000000
set_option maxRecDepth 100000
end Go.Proofs.YtfphmlmgjhebjaaGreatDoor
namespace Go.Ulp
open Go.RowKit
theorem fv_isNh (x:Int):IsN (fv x):=nrm_isN _ _
theorem fv_small_h (x:Int) (h0:0≤x) (h1:x<18446744073709551616):(limbs (fv x).1.natAbs).length≤2∧ -1074≤(fv x).2∧(fv x).2≤1024:=by
 obtain ⟨-,h2,h3,h4⟩:=fv_bd x h0 h1
 exact ⟨limbs_short1 53 2 (by omega) _ h2,h3,h4⟩
end Go.Ulp
namespace Go.Proofs.YtfphmlmgjhebjaaGreatDoor
open Go.RowKit Go.Ulp
set_option maxHeartbeats 2000000
set_option maxRecDepth 100000
end Go.Proofs.YtfphmlmgjhebjaaGreatDoor
