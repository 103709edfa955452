/- WantedSays: what the proof leans on, part 15 (Rm). -/
import Derived.Test.YtfphmlmgjhebjaaGreatDoorKWantedSays7
import Derived.Test.YtfphmlmgjhebjaaGreatDoorKWantedSays11
import Derived.Test.YtfphmlmgjhebjaaGreatDoorKWantedSays13
import Derived.Test.YtfphmlmgjhebjaaGreatDoorKWantedSays14
set_option linter.unusedVariables false
set_option linter.unusedSimpArgs false
namespace Go.Ulp
open Go.RowKit
def mulK (D:Dy) (p:Int):Bool:=decide (p≤D.2∨D.1=0)
def mplD (D:Dy) (p mode:Int):Dy:=if mulK D p=true then nrm D.1 D.2 else nrm (sg (decide (D.1<0)) (cutN (decide (D.1<0)) D.1.natAbs (p-D.2) mode:Int)) p
def mplC (D:Dy) (p:Int):Bool:=if mulK D p=true then false else cutC D.1.natAbs (p-D.2)
def RetMp (w:World) (D:Dy) (ch:Bool) (e:Ending) (w':World):Prop:= ∃v,e=.returned (.tuple #[v,.bool ch])∧VD w' D v∧Below w.heap.size w w'
end Go.Ulp
namespace Go.Proofs.YtfphmlmgjhebjaaGreatDoor
open Go.RowKit Go.Ulp
set_option maxHeartbeats 1000000
set_option maxRecDepth 100000
theorem multiple_any (v:Value) (D:Dy) (p mode:Int) (w:World) (hv:VD w D v) (hl:(limbs D.1.natAbs).length≤10000) (he: -100000≤D.2∧D.2≤100000) (hp: -100000≤p∧p≤100000)
 (hcl:(limbs (cutN (decide (D.1<0)) D.1.natAbs (p-D.2) mode)).length≤1000000) (hT:Tab 1 w):
 Calls Tryz.prog 187 #[v,.int .i64 p,.int .i64 mode] w (RetMp w (mplD D p mode) (mplC D p)):=by
 obtain ⟨am,cm,rfl,hN⟩:=hv
 have HN:=hid hN
 have HT:=hid hT
 have lD:=dy_len D
 have yb0:Below w.heap.size w ((w.alloc (.cells #[.bool (decide (D.1<0)),.slice am (limbs D.1.natAbs).length cm,.int .i64 D.2] 67)).alloc (.cells #[.bool false,.slice none 0 0,.int .i64 0] 67)):=by (repeat' first|(with_reducible first|assumption|apply bR|apply bA|apply bN|apply bD|apply bL|apply bS)|refine bT ?_ (by assumption)|go_size)
 have zA0:QL 67 ((w.alloc (.cells #[.bool (decide (D.1<0)),.slice am (limbs D.1.natAbs).length cm,.int .i64 D.2] 67)).alloc (.cells #[.bool false,.slice none 0 0,.int .i64 0] 67)) w.heap.size (decide (D.1<0)) (.slice am (limbs D.1.natAbs).length cm) D.2:=(QL.made rfl).alloc _
 have zR0:QL 67 ((w.alloc (.cells #[.bool (decide (D.1<0)),.slice am (limbs D.1.natAbs).length cm,.int .i64 D.2] 67)).alloc (.cells #[.bool false,.slice none 0 0,.int .i64 0] 67)) (w.heap.size+1) false (.slice none 0 0) 0:=QL.made (by first|omega|(simp;done)|(simp;omega))
 cases hk:mulK D p
 ·have e1:mplD D p mode=nrm (sg (decide (D.1<0)) (cutN (decide (D.1<0)) D.1.natAbs (p-D.2) mode:Int)) p:=by unfold mplD;rw [hk];rfl
  have e2:mplC D p=cutC D.1.natAbs (p-D.2):=by unfold mplC;rw [hk];rfl
  rw [e1,e2]
  have hk2: ¬(p≤D.2∨D.1=0):=of_decide_eq_false hk
  have hge: ¬p≤D.2:=fun h=>hk2 (.inl h)
  have hlb:(((limbs D.1.natAbs).length:Int)==0)=false:=beq_eq_false_iff_ne.2 (fun h=>hk2 (.inr (lD.1 (by omega))))
  have CU:=hid (fun w h=>cut_any (decide (D.1<0)) am cm D.1.natAbs (p-D.2) mode w h (by omega) (by omega))
  have NO:=hid (fun a c w h t=>normD_any (decide (D.1<0)) a c (cutN (decide (D.1<0)) D.1.natAbs (p-D.2) mode) p w h hcl (by omega) t)
  generalize nrm (sg (decide (D.1<0)) (cutN (decide (D.1<0)) D.1.natAbs (p-D.2) mode:Int)) p=R at *
  generalize cutN (decide (D.1<0)) D.1.natAbs (p-D.2) mode=q at *
  generalize cutC D.1.natAbs (p-D.2)=ch at *
  generalize D.1.natAbs=M0 at *
  generalize decide (D.1<0)=n0 at *
  generalize D.2=e0 at *
  clear hN hT hk hk2 e1 e2 lD hcl
  go_enter Tryz.func187,Tryz.ntmps187
  obtain ⟨⟨j0,j1,-,-,-⟩,j2,-⟩:=id zA0
  go_upto_region 4 with (go_at_call 152;(with_reducible refine (CU.out _ (HN.out.below yb0)).mono ?_);rintro en w1 ⟨a1,rfl,hN1,hb1⟩;have yb1:=below_trans yb0 hb1;have zA1:=zA0.below hb1;have zR1:=zR0.below hb1)
  obtain ⟨⟨i0,i1,-,-,-⟩,i2,-⟩:=id zA1
  go_wp2_with (go_at_call 156;(with_reducible refine (NO.out _ _ _ hN1 (HT.out.below yb1)).mono ?_);rintro en w3 ⟨v3,rfl,⟨a3,c3,rfl,hN3⟩,hb3⟩;have zR3:=zR1.below hb3;have yb3:=below_trans yb1 hb3;obtain ⟨⟨k0,k1,f0,f1,hs2⟩,k2,f2⟩:=id zR3)
  refine bodyPost_ret (by simp [results,Tryz.results187,go_sem,k0,k1,k2];try rfl) rfl ?_
  exact ⟨_,rfl,⟨a3,c3,rfl,hN3.set3 zR3 (by intro x h;cases h) _ _ _⟩,((yb3.setCell (by first|omega|(simp;done)|(simp;omega)) _).setCell (by first|omega|(simp;done)|(simp;omega)) _).setCell (by first|omega|(simp;done)|(simp;omega)) _⟩
 ·have e1:mplD D p mode=nrm D.1 D.2:=by unfold mplD;rw [hk];rfl
  have e2:mplC D p=false:=by unfold mplC;rw [hk];rfl
  rw [e1,e2]
  have hk2:p≤D.2∨D.1=0:=of_decide_eq_true hk
  have hk3:p≤D.2∨(¬p≤D.2∧(limbs D.1.natAbs).length=0):=by
   rcases Int.lt_or_le D.2 p with h|h
   ·right;refine ⟨by omega,lD.2 ?_⟩
    rcases hk2 with h2|h2
    ·omega
    ·exact h2
   ·exact .inl h
  have NO:=hid (show ∀w,Ns .u32 w am cm (limbs D.1.natAbs)→Tab 1 w→Calls Tryz.prog 156 #[.bool (decide (D.1<0)),.slice am (limbs D.1.natAbs).length cm,.int .i64 D.2] w (RetVD w (nrm D.1 D.2)) from fun w k t=>by
   have:=normD_any (decide (D.1<0)) am cm D.1.natAbs D.2 w k (by omega) (by omega) t
   rwa [sg_self] at this)
  generalize nrm D.1 D.2=R at *
  generalize D.1.natAbs=M0 at *
  generalize decide (D.1<0)=n0 at *
  generalize D.2=e0 at *
  clear hN hT hk hk2 e1 e2 lD hcl
  rcases hk3 with hge|⟨hge,hz⟩
  ·go_enter Tryz.func187,Tryz.ntmps187
   obtain ⟨⟨j0,j1,-,-,-⟩,j2,-⟩:=id zA0
   go_wp2_with (go_at_call 156;(with_reducible refine (NO.out _ (HN.out.below yb0) (HT.out.below yb0)).mono ?_);rintro en w3 ⟨v3,rfl,⟨a3,c3,rfl,hN3⟩,hb3⟩;have zR3:=zR0.below hb3;have yb3:=below_trans yb0 hb3;obtain ⟨⟨k0,k1,f0,f1,hs2⟩,k2,f2⟩:=id zR3)
   refine bodyPost_ret (by simp [results,Tryz.results187,go_sem,k0,k1,k2];try rfl) rfl ?_
   exact ⟨_,rfl,⟨a3,c3,rfl,hN3.set3 zR3 (by intro x h;cases h) _ _ _⟩,((yb3.setCell (by first|omega|(simp;done)|(simp;omega)) _).setCell (by first|omega|(simp;done)|(simp;omega)) _).setCell (by first|omega|(simp;done)|(simp;omega)) _⟩
  ·rw [hz] at zA0 zR0 yb0 NO ⊢
   clear hz
   go_enter Tryz.func187,Tryz.ntmps187
   obtain ⟨⟨j0,j1,-,-,-⟩,j2,-⟩:=id zA0
   go_wp2_with (go_at_call 156;(with_reducible refine (NO.out _ (HN.out.below yb0) (HT.out.below yb0)).mono ?_);rintro en w3 ⟨v3,rfl,⟨a3,c3,rfl,hN3⟩,hb3⟩;have zR3:=zR0.below hb3;have yb3:=below_trans yb0 hb3;obtain ⟨⟨k0,k1,f0,f1,hs2⟩,k2,f2⟩:=id zR3)
   refine bodyPost_ret (by simp [results,Tryz.results187,go_sem,k0,k1,k2];try rfl) rfl ?_
   exact ⟨_,rfl,⟨a3,c3,rfl,hN3.set3 zR3 (by intro x h;cases h) _ _ _⟩,((yb3.setCell (by first|omega|(simp;done)|(simp;omega)) _).setCell (by first|omega|(simp;done)|(simp;omega)) _).setCell (by first|omega|(simp;done)|(simp;omega)) _⟩
end Go.Proofs.YtfphmlmgjhebjaaGreatDoor
namespace Go.Ulp
open Go.RowKit
theorem half_scale (r j:Nat) (hj:0<j):cmpI ((r:Int)+(r:Int)) (pw j)=cmpI (r:Int) ((2^(j-1):Nat):Int):=by
 obtain ⟨i,rfl⟩: ∃i,j=i+1:=⟨j-1,by omega⟩
 have e:pw (i+1)=2*((2^(i+1-1):Nat):Int):=by rw [pw_nat,Nat.pow_succ,Nat.add_sub_cancel];omega
 rw [e]
 unfold cmpI
 split<;>split<;>(try split)<;>(try split)<;>omega
def ctLow (X:Int) (S:Nat):Int:=X/pw S
def ctNear (X:Int) (S:Nat):Int:=cmpI (X%pw S+X%pw S) (pw S)
def ctUp (X:Int) (S:Nat) (mode:Int):Bool:=upR (decide (X<0)) mode (ctNear X S) (ctLow X S+1)
def ctOut (X:Int) (S:Nat) (mode:Int):Int:=ctLow X S+(if ctUp X S mode=true then 1 else 0)
theorem ct_core (d:Int) (j:Nat) (mode:Int) (m0:0≤mode) (m1:mode≤4) (hj:0<j) (hr:d%pw j≠0):
 ctOut d j mode=sg (decide (d<0)) (cutN (decide (d<0)) d.natAbs (j:Int) mode:Int):=by
 have hp:=pw_pos j
 obtain ⟨M,hM⟩: ∃M,M=d.natAbs:=⟨_,rfl⟩
 obtain ⟨R,hR⟩: ∃R,R=M/2^j:=⟨_,rfl⟩
 obtain ⟨r,hrr⟩: ∃r,r=M%2^j:=⟨_,rfl⟩
 have hdm:2^j*R+r=M:=by rw [hR,hrr];exact Nat.div_add_mod _ _
 have hrl:r<2^j:=by rw [hrr];exact Nat.mod_lt _ (Nat.two_pow_pos j)
 have hcut: ∀neg,(cutN neg M (j:Int) mode:Int)=if r≠0∧upN neg (decide ((R:Int)%2=1)) (cmpI (r:Int) ((2^(j-1):Nat):Int)) mode=true then (R:Int)+1 else (R:Int):=by
  intro neg
  unfold cutN
  rw [if_neg (by omega),Int.toNat_natCast,←hR,←hrr]
  split
  ·rw [Int.natCast_add];rfl
  ·rfl
 have hPz:((2^j:Nat):Int)=pw j:=rfl
 have hdz:(M:Int)=pw j*(R:Int)+(r:Int):=by rw [←hdm,Int.natCast_add,Int.natCast_mul,hPz]
 have hrz:(r:Int)<pw j:=by rw [←hPz];omega
 rw [←hM]
 rcases Int.lt_or_le d 0 with hs|hs
 ·have hd:d= -(M:Int):=by omega
  have hr0:r≠0:=by
   intro h0;apply hr
   rw [hd,hdz,h0]
   have: -(pw j*(R:Int)+((0:Nat):Int))=pw j*(-(R:Int)):=by rw [Int.mul_neg];omega
   rw [this];exact Int.mul_emod_right _ _
  have hq:d/pw j= -(R:Int)-1∧d%pw j=pw j-r:=by
   have e:d=(pw j-(r:Int))+pw j*(-(R:Int)-1):=by rw [hd,hdz,Int.mul_sub,Int.mul_neg,Int.mul_one];omega
   refine ⟨?_,?_⟩
   ·rw [e,Int.add_mul_ediv_left _ _ (by omega),Int.ediv_eq_zero_of_lt (by omega) (by omega)];omega
   ·rw [e,Int.add_mul_emod_self_left,Int.emod_eq_of_lt (by omega) (by omega)]
  have hn:ctNear d j= -cmpI (r:Int) ((2^(j-1):Nat):Int):=by
   unfold ctNear
   rw [hq.2,←half_scale r j hj]
   unfold cmpI
   split<;>split<;>(try split)<;>(try split)<;>omega
  unfold ctOut ctUp
  rw [hn,decide_eq_true hs,show ctLow d j+1= -(R:Int) by unfold ctLow;rw [hq.1];omega,up_neg _ mode (R:Int) m0 m1,hcut]
  unfold ctLow
  rw [hq.1]
  cases hu:upN true (decide ((R:Int)%2=1)) (cmpI (r:Int) ((2^(j-1):Nat):Int)) mode
  ·rw [if_pos (by rfl),if_neg (by simp)];unfold sg;simp<;>omega
  ·rw [if_neg (by simp),if_pos ⟨hr0,rfl⟩];unfold sg;simp<;>omega
 ·have hd:d=(M:Int):=by omega
  have hq:d/pw j=(R:Int)∧d%pw j=r:=by
   have e:d=(r:Int)+pw j*(R:Int):=by rw [hd,hdz];omega
   refine ⟨?_,?_⟩
   ·rw [e,Int.add_mul_ediv_left _ _ (by omega),Int.ediv_eq_zero_of_lt (by omega) (by omega)];omega
   ·rw [e,Int.add_mul_emod_self_left,Int.emod_eq_of_lt (by omega) (by omega)]
  have hr0:r≠0:=by intro h0;apply hr;rw [hq.2,h0];try rfl
  have hn:ctNear d j=cmpI (r:Int) ((2^(j-1):Nat):Int):=by
   unfold ctNear
   rw [hq.2,half_scale r j hj]
  unfold ctOut ctUp
  rw [hn,decide_eq_false (by omega),show ctLow d j+1=(R:Int)+1 by unfold ctLow;rw [hq.1],up_pos _ mode (R:Int) m0 m1,hcut]
  unfold ctLow
  rw [hq.1]
  cases hu:upN false (decide ((R:Int)%2=1)) (cmpI (r:Int) ((2^(j-1):Nat):Int)) mode
  ·rw [if_neg (by simp),if_neg (by simp)];unfold sg;simp
  ·rw [if_pos (by rfl),if_pos ⟨hr0,rfl⟩];unfold sg;simp
theorem cut_plain (D:Dy) (X p:Int) (S:Nat) (mode:Int) (m0:0≤mode) (m1:mode≤4) (hI:IsN D) (hX:nrm X (-(S:Int))=shD D (-p)):
 (X%pw S=0↔mulK D p=true)∧(X%pw S≠0→nrm (ctOut X S mode) p=mplD D p mode∧mplC D p=true):=by
 by_cases h0:D.1=0
 ·have hX0:X=0:=by
   have h1:(nrm X (-(S:Int))).1=0:=by rw [hX];unfold shD;rw [h0];rfl
   exact (nrm_zero_iff _ _).1 h1
  subst hX0
  have e:(0:Int)%pw S=0:=Int.zero_emod _
  exact ⟨⟨fun _=>by unfold mulK;exact decide_eq_true (.inr h0),fun _=>e⟩,fun h=>absurd e h⟩
 have hodd:D.1.natAbs%2=1:=by rcases hI with ⟨h,-⟩|h;exact absurd h h0;exact h
 have hsh:shD D (-p)=(D.1,D.2+ -p):=by unfold shD;exact nrm_of_isN (D.1,D.2+ -p) (.inr hodd)
 rw [hsh] at hX
 obtain ⟨k,hk1,hk2⟩:=nrm_rep X (-(S:Int))
 rw [hX] at hk1 hk2
 have hX0:X≠0:=by intro h;rw [h] at hk1;have hp:=pw_pos k;have:D.1*pw k=0:=hk1.symm;rcases Int.mul_eq_zero.1 this with h|h;exact h0 h;omega
 have hk3:D.2+ -p= -(S:Int)+k:=hk2 hX0
 have hk1':X=D.1*pw k:=hk1
 rcases Int.lt_or_le D.2 p with hlt|hle
 ·obtain ⟨j,hj⟩: ∃j:Nat,(j:Int)=p-D.2:=⟨(p-D.2).toNat,by omega⟩
  have hS:S=k+j:=by omega
  have hjp:0<j:=by omega
  have hpk:=pw_pos k
  have hXX:X=pw k*D.1:=by rw [hk1',Int.mul_comm]
  have hmod:X%pw S=pw k*(D.1%pw j):=by rw [hS,pw_add,hXX];exact Int.mul_emod_mul_of_pos _ _ hpk
  have hdiv:X/pw S=D.1/pw j:=by rw [hS,pw_add,hXX];exact Int.mul_ediv_mul_of_pos _ _ hpk
  have hdr:D.1%pw j≠0:=by
   intro h
   obtain ⟨i,rfl⟩: ∃i,j=i+1:=⟨j-1,by omega⟩
   have h2:D.1=pw (i+1)*(D.1/pw (i+1)):=by have:=Int.mul_ediv_add_emod D.1 (pw (i+1));omega
   rw [pw_add,show pw 1=2 from rfl,Int.mul_comm (pw i) 2,Int.mul_assoc] at h2
   omega
  have hmk:mulK D p=false:=by unfold mulK;exact decide_eq_false (fun h=>h.elim (by omega) h0)
  have hne:X%pw S≠0:=by
   rw [hmod];intro h;rcases Int.mul_eq_zero.1 h with h|h
   ·omega
   ·exact hdr h
  refine ⟨⟨fun h=>absurd h hne,fun h=>by rw [hmk] at h;cases h⟩,fun _=>?_⟩
  have hneg:decide (X<0)=decide (D.1<0):=by
   have h1:X<0↔D.1<0:=by
    rw [hk1']
    have:=pw_lt (a:=D.1) (b:=0) k
    rwa [Int.zero_mul] at this
   exact decide_eq_decide.2 h1
  have hnear:ctNear X S=ctNear D.1 j:=by
   unfold ctNear
   rw [hmod,hS,pw_add,←Int.mul_add,Int.mul_comm (pw k) (D.1%pw j+D.1%pw j),Int.mul_comm (pw k) (pw j)]
   exact cmpI_pw _ _ k
  have hout:ctOut X S mode=ctOut D.1 j mode:=by
   unfold ctOut ctUp
   rw [hneg,hnear]
   unfold ctLow
   rw [hdiv]
  refine ⟨?_,?_⟩
  ·unfold mplD
   rw [hmk,if_neg (by simp),hout,ct_core D.1 j mode m0 m1 hjp hdr,hj]
  ·unfold mplC cutC
   rw [hmk,if_neg (by simp),if_neg (by omega)]
   refine decide_eq_true (fun h=>hdr ?_)
   rw [show (p-D.2).toNat=j by omega] at h
   have h5:=Nat.div_add_mod D.1.natAbs (2^j)
   rw [h,Nat.add_zero] at h5
   rcases Int.lt_or_le D.1 0 with hs|hs
   ·have:D.1=pw j*(-((D.1.natAbs/2^j:Nat):Int)):=by
     rw [pw_nat,Int.mul_neg,←Int.natCast_mul,h5];omega
    rw [this];exact Int.mul_emod_right _ _
   ·have:D.1=pw j*(((D.1.natAbs/2^j:Nat):Int)):=by
     rw [pw_nat,←Int.natCast_mul,h5];omega
    rw [this];exact Int.mul_emod_right _ _
 ·have hmk:mulK D p=true:=by unfold mulK;exact decide_eq_true (.inl hle)
  obtain ⟨i,hi⟩: ∃i:Nat,k=i+S:=⟨k-S,by omega⟩
  have hz:X%pw S=0:=by rw [hk1',hi,pw_add,←Int.mul_assoc];exact Int.mul_emod_left _ _
  exact ⟨⟨fun _=>hmk,fun _=>hz⟩,fun h=>absurd hz h⟩
def RetCt (t:TypeId) (w:World) (D:Dy) (A T:Nat) (lost:Bool) (e:Ending) (w':World):Prop:=
 ∃v,e=.returned (.tuple #[v,.bool lost])∧QD t w' D A T v∧Below w.heap.size w w'
theorem mul_form (D:Dy) (p mode:Int) (hI:IsN D) (h:mulK D p=true):mplD D p mode=D∧mplC D p=false:=by
 unfold mplD mplC
 rw [h,if_pos rfl,if_pos rfl]
 exact ⟨nrm_of_isN D hI,rfl⟩
theorem ct_bound {X:Int} {S A:Nat} {b:Bool} (h:X.natAbs<2^A):(X/pw S+(if b=true then 1 else 0)).natAbs<2^(A+1):=by
 have hp:=pw_pos S
 have h1:(X/pw S).natAbs≤X.natAbs:=by
  rcases Int.lt_or_le X 0 with hs|hs
  ·have h2:X≤X/pw S:=by
    have:=Int.le_ediv_of_mul_le hp (show X*pw S≤X by
     have:X*pw S≤X*1:=Int.mul_le_mul_of_nonpos_left (by omega) (by omega)
     omega)
    exact this
   have h3:X/pw S<0:=Int.ediv_neg_of_neg_of_pos hs hp
   omega
  ·have h2:X/pw S≤X:=Int.ediv_le_self _ hs
   have h3:0≤X/pw S:=Int.ediv_nonneg hs (by omega)
   omega
 rw [Nat.pow_succ]
 have:=Nat.two_pow_pos A
 split<;>omega
end Go.Ulp
namespace Go.Proofs.YtfphmlmgjhebjaaGreatDoor
open Go.RowKit Go.Ulp
set_option maxHeartbeats 2000000
set_option maxRecDepth 100000
theorem zsign_any (a0:Option Addr) (c0:Nat) (x:Int) (w:World) (h0:Nz 3 w a0 c0 (zl x)):
 Calls Tryz.prog 121 #[.agg #[.bool (zneg x),.slice a0 (zl x).length c0]] w fun e w'=>e=.returned (.int .i64 (cmpI x 0))∧Below w.heap.size w w':=by
 have yb0:=below_alloc w (.cells #[.bool (zneg x),.slice a0 (zl x).length c0] 31)
 have h1:=h0.below yb0
 have ZC:=hid (show ∀w,Nz 3 w a0 c0 (zl x)→Calls Tryz.prog 117 #[.agg #[.bool (zneg x),.slice a0 (zl x).length c0],.agg #[.bool false,.slice none 0 0]] w fun e w'=>e=.returned (.int .i64 (cmpI x 0))∧Below w.heap.size w w' from fun w h=>zcmp_any a0 none c0 0 x 0 w h (Nz.nil' none 0 (by decide)))
 have zA:ZL 31 (w.alloc (.cells #[.bool (zneg x),.slice a0 (zl x).length c0] 31)) w.heap.size (zneg x) (.slice a0 (zl x).length c0):=ZL.made rfl
 obtain ⟨j0,j1,-,-,-⟩:=id zA
 clear h0
 go_enter Tryz.func121,Tryz.ntmps121
 go_wp2_with (go_at_call 117;(with_reducible refine (ZC.out _ h1).mono ?_);rintro en w1 ⟨rfl,hb1⟩)
 refine bodyPost_ret (by simp [results,Tryz.results121,go_sem];try rfl) rfl ?_
 exact ⟨rfl,below_trans yb0 hb1⟩
theorem cutTo_any (v:Value) (D:Dy) (A T:Nat) (p mode:Int) (w:World) (hv:QD 3 w D A T v) (hA:A≤400000) (hT:T≤200000) (hp1: -20000≤p) (hp2:p≤20000) (m0:0≤mode) (m1:mode≤4):
 Calls Tryz.prog 205 #[v,.int .i64 p,.int .i64 mode] w (RetCt 3 w (mplD D p mode) 900000 200000 (mplC D p)):=by
 have QSH:=hid (fun w h=>qshift_any v D A T (-p) w h (by omega) (by omega) (by omega) (by omega))
 have HVD:=hid (fun w' (hb:Below w.heap.size w w')=>hv.below hb)
 obtain ⟨y,m,a0,c0,rfl,h0,hD,hyA,hm⟩:=hv
 have hI:IsN D:=by rw [←hD];exact nrm_isN _ _
 have CP:=hid (fun X S h=>cut_plain D X p S mode m0 m1 hI h)
 have MF:=hid (fun h=>mul_form D p mode hI h)
 have H0:=hid h0
 have hw1:IntKind.i64.wrap (-p)= -p:=IntWalk.i64_in _ (by omega)
 have zA:QL 33 ((w.alloc (.cells #[.bool (zneg y),.slice a0 (zl y).length c0,.int .i64 (m:Int)] 33)).alloc (.cells #[.bool false,.slice none 0 0,.int .i64 0] 33)) w.heap.size (zneg y) (.slice a0 (zl y).length c0) m:=(QL.made rfl).alloc _
 have zR:QL 33 ((w.alloc (.cells #[.bool (zneg y),.slice a0 (zl y).length c0,.int .i64 (m:Int)] 33)).alloc (.cells #[.bool false,.slice none 0 0,.int .i64 0] 33)) (w.heap.size+1) false (.slice none 0 0) 0:=QL.made (by first|omega|(simp;done)|(simp;omega))
 have yb:Below w.heap.size w ((w.alloc (.cells #[.bool (zneg y),.slice a0 (zl y).length c0,.int .i64 (m:Int)] 33)).alloc (.cells #[.bool false,.slice none 0 0,.int .i64 0] 33)):=by (repeat' first|(with_reducible first|assumption|apply bR|apply bA|apply bN|apply bD|apply bL|apply bS)|refine bT ?_ (by assumption)|go_size)
 have hmQ:D=D:=rfl
 clear h0 hmQ
 go_enter Tryz.func205,Tryz.ntmps205
 go_upto_region 1 with fail
 obtain ⟨W0,hW0⟩: ∃W,W=((w.alloc (.cells #[.bool (zneg y),.slice a0 (zl y).length c0,.int .i64 (m:Int)] 33)).alloc (.cells #[.bool false,.slice none 0 0,.int .i64 0] 33)):=⟨_,rfl⟩
 rw [←hW0] at zA zR yb ⊢
 clear hW0
 go_cut [8] (fun s1 wx=> ∃(g:Nat) (X:Int) (S:Nat) (ax:Option Addr) (cx:Nat),s1=.pointer (some ⟨g,0,none⟩)∧W0.heap.size≤g∧QL 33 wx g (zneg X) (.slice ax (zl X).length cx) (S:Int)∧Nz 3 wx ax cx (zl X)∧nrm X (-(S:Int))=shD D (-p)∧X.natAbs<2^(A+400000)∧S≤400000∧Below W0.heap.size W0 wx)
 case first=>
  obtain ⟨⟨j0,j1,-,-,-⟩,j2,-⟩:=id zA
  go_wp2_with (go_at_call 115;(with_reducible refine (QSH.out _ (HVD.out _ yb)).mono ?_);rintro en w2 ⟨v2,rfl,⟨X,S,ax,cx,rfl,hNX,hXD,hXA,hS⟩,hb2⟩)
  go_meet
  exact ⟨_,X,S,ax,cx,rfl,hb2.size,QL.made rfl,hNX.below (below_alloc _ _),hXD,hXA,hS,by (repeat' first|(with_reducible first|assumption|apply bR|apply bA|apply bN|apply bD|apply bL|apply bS)|refine bT ?_ (by assumption)|go_size)⟩
 case rest=>
 obtain ⟨gx,X,S,ax,cx,rfl,hgx,zX,hNX,hXD,hXA,hS,hbx⟩:=hcut
 replace zA:=zA.below hbx
 replace zR:=zR.below hbx
 replace yb:=below_trans yb hbx
 have hW0s:=hbx.size
 obtain ⟨W1,hW1⟩: ∃W,W=wc:=⟨_,rfl⟩
 subst hW1
 have hR1:=zR.lt
 have CP2:=hid (CP.out X S hXD)
 have hlX:=zl_len_bits X _ hXA
 have hlp:=zl_len_pw S
 have HNX:=hid hNX
 have DV:=hid (fun v w h0 h1=>zdiv_v ax cx X (pw S) v w h0 h1 (by omega) (by omega) (by have:=pw_pos S;omega))
 have ZP:=hid (fun w=>zpow_any S w (by omega))
 have HXA:=hid hXA
 clear QSH hbx hXD CP hlX hlp hNX hXA
 go_upto_region 2 with fail
 refine wp_region_growL 11 8 [21,22,23,24,25,26,20,27,28,9,10] [Fact.is (.pointer (some ⟨gx,0,none⟩)),Fact.is (.agg #[.bool (zneg X),.slice ax (zl X).length cx]),Fact.is (.pointer (some ⟨gx,2,none⟩)),Fact.is (.int .i64 (S:Int)),Fact.z 3 (pw S),Fact.z2 3 (X/pw S) (X%pw S),Fact.z2 3 (X/pw S) (X%pw S),Fact.z 3 (X/pw S),Fact.z 3 (X%pw S),Fact.z0 W1.heap.size 31,Fact.z0 W1.heap.size 31] [9,10] (by kernel_rfl) (by kernel_rfl) rfl ⟨?o0,?o1,?o2,?o3,?o4,?o5,?o6,?o7,?o8,?o9,?o10,trivial⟩ ?late (fun d _ _ _ _ h=>by cases d<;>exact h) ?after
 case o0=>(refine oQF rfl ?_;intro ρ w1 R hcon hfn hρ hb hp hR;have e8:ρ (.tmp 8)=.pointer (some ⟨gx,0,none⟩):=hρ.tmp 8 rfl;replace hR:=fun v w2 h1 h2=>hR v w2 h1 h2 (fun h=>absurd h (by decide));clear hρ hp;unfold OpRun;go_simp;exact hR _ _ (Below.refl _ _) rfl)
 case o1=>(refine oQF rfl ?_;intro ρ w1 R hcon hfn hρ hb hp hR;have e21:ρ (.tmp 21)=_:=hp 0 21 rfl rfl;obtain ⟨⟨j0,j1,-,-,-⟩,j2,-⟩:=zX.below hb;replace hR:=fun v w2 h1 h2=>hR v w2 h1 h2 (fun h=>absurd h (by decide));clear hρ hp;unfold OpRun;go_simp;exact hR _ _ (Below.refl _ _) rfl)
 case o2=>(refine oQF rfl ?_;intro ρ w1 R hcon hfn hρ hb hp hR;have e8:ρ (.tmp 8)=.pointer (some ⟨gx,0,none⟩):=hρ.tmp 8 rfl;replace hR:=fun v w2 h1 h2=>hR v w2 h1 h2 (fun h=>absurd h (by decide));clear hρ hp;unfold OpRun;go_simp;exact hR _ _ (Below.refl _ _) rfl)
 case o3=>(refine oQF rfl ?_;intro ρ w1 R hcon hfn hρ hb hp hR;have e23:ρ (.tmp 23)=_:=hp 2 23 rfl rfl;obtain ⟨⟨j0,j1,-,-,-⟩,j2,-⟩:=zX.below hb;replace hR:=fun v w2 h1 h2=>hR v w2 h1 h2 (fun h=>absurd h (by decide));clear hρ hp;unfold OpRun;go_simp;exact hR _ _ (Below.refl _ _) rfl)
 case o4=>(refine oQF rfl ?_;intro ρ w1 R hcon hfn hρ hb hp hR;have e24:ρ (.tmp 24)=_:=hp 3 24 rfl rfl;replace hR:=fun v w2 h1 h2=>hR v w2 h1 h2 (fun h=>absurd h (by decide));clear hρ hp;unfold OpRun;go_simp;(refine (ZP.out _).mono ?_;rintro e wn ⟨az,cz,rfl,hz9,hbn⟩;exact ⟨_,rfl,hR _ _ hbn ⟨az,cz,rfl,hz9⟩⟩))
 case o5=>(refine oQF rfl ?_;intro ρ w1 R hcon hfn hρ hb hp hR;have e22:ρ (.tmp 22)=_:=hp 1 22 rfl rfl;have f25:=hp 4 25 rfl rfl;replace hR:=fun v w2 h1 h2=>hR v w2 h1 h2 (fun h=>absurd h (by decide));clear hρ hp;unfold OpRun;go_simp;(refine (DV.out _ _ (HNX.out.below hb) f25).mono ?_;rintro e wn ⟨ao,cap,bo,cbp,rfl,hq,hr,hbn⟩;exact ⟨_,rfl,hR _ _ hbn ⟨ao,cap,bo,cbp,rfl,hq,hr⟩⟩))
 case o6=>(refine oQF rfl ?_;intro ρ w1 R hcon hfn hρ hb hp hR;have f26:=hp 5 26 rfl rfl;replace hR:=fun v w2 h1 h2=>hR v w2 h1 h2 (fun h=>absurd h (by decide));clear hρ hp;unfold OpRun;go_simp;exact hR _ _ (Below.refl _ _) f26)
 case o7=>(refine oQF rfl ?_;intro ρ w1 R hcon hfn hρ hb hp hR;have f20:=hp 6 20 rfl rfl;replace hR:=fun v w2 h1 h2=>hR v w2 h1 h2 (fun h=>absurd h (by decide));clear hρ hp;unfold OpRun;go_simp;(obtain ⟨ao,cap,bo,cbp,e12,hq,hr⟩:=f20;rw [e12];exact hR _ _ (Below.refl _ _) ⟨_,_,rfl,hq⟩))
 case o8=>(refine oQF rfl ?_;intro ρ w1 R hcon hfn hρ hb hp hR;have f20:=hp 6 20 rfl rfl;replace hR:=fun v w2 h1 h2=>hR v w2 h1 h2 (fun h=>absurd h (by decide));clear hρ hp;unfold OpRun;go_simp;(obtain ⟨ao,cap,bo,cbp,e12,hq,hr⟩:=f20;rw [e12];exact hR _ _ (Below.refl _ _) ⟨_,_,rfl,hr⟩))
 case o9=>(refine oQF rfl ?_;intro ρ w1 R hcon hfn hρ hb hp hR;clear hρ hp;unfold OpRun;go_simp;exact hR _ _ (below_alloc _ _) ⟨_,rfl,hb.size,ZL.made rfl⟩ (fun _=>⟨_,rfl,Nat.le_refl _,by simp⟩))
 case o10=>(refine oQF rfl ?_;intro ρ w1 R hcon hfn hρ hb hp hR;clear hρ hp;unfold OpRun;go_simp;exact hR _ _ (below_alloc _ _) ⟨_,rfl,hb.size,ZL.made rfl⟩ (fun _=>⟨_,rfl,Nat.le_refl _,by simp⟩))
 case late=>
  intro o ho
  simp only [List.getElem?_cons_succ,List.getElem?_cons_zero,Option.some.injEq] at ho
  subst ho
  refine ⟨rfl,?_⟩
  intro ρ w1 hρ hb hp
  have f20:=hp 6 20 rfl rfl
  obtain ⟨ao,cap,bo,cbp,e20,hq,hr⟩:=f20
  refine ⟨_,?_,⟨_,_,rfl,hr⟩⟩
  intro w2
  have hcon:=hρ.con
  go_simp
  try rfl
 case after=>
  intro u wn hb hf hd
  have f27:=hf 7 27 (by omega) rfl
  have f28:=hf 8 28 (by omega) rfl
  have f9:=hf 9 9 (by omega) rfl
  have f10:=hf 10 10 (by omega) rfl
  have d9_10:u 9≠u 10:=hd 9 10 9 10 (by omega) (by omega) (by omega) rfl rfl rfl rfl
  clear hf hd
  simp only [putAll,Act.put,List.setIfInBounds_toArray,List.set_cons_zero,List.set_cons_succ,List.drop_succ_cons,List.drop_zero,List.drop_nil]
  obtain ⟨qa,qc,e27,hq⟩:=f27
  obtain ⟨ra,rc,e28,hr⟩:=f28
  obtain ⟨g9,e9,hg9,z9⟩:=f9
  obtain ⟨g10,e10,hg10,z10⟩:=f10
  have h910:g9≠g10:=by intro h;apply d9_10;rw [e9,e10,h]
  have h109:=h910.symm
  rw [e27,e28,e9,e10]
  clear e27 e28 e9 e10 d9_10
  obtain ⟨a60,a61,af0,af1,as6⟩:=id z9
  obtain ⟨b70,b71,bf0,bf1,bs7⟩:=id z10
  go_upto_region 3 with fail
  have zL:=((((z9.set0 (zneg (X/pw S))).set1 (.slice qa (zl (X/pw S)).length qc)).far ⟨g10,0,none⟩ (.bool (zneg (X%pw S))) h910).far ⟨g10,1,none⟩ (.slice ra (zl (X%pw S)).length rc) h910)
  have zT:=(((z10.far ⟨g9,0,none⟩ (.bool (zneg (X/pw S))) h109).far ⟨g9,1,none⟩ (.slice qa (zl (X/pw S)).length qc) h109).set0 (zneg (X%pw S))).set1 (.slice ra (zl (X%pw S)).length rc)
  have hq2:=(hq.st2 as6 (by decide) (.bool (zneg (X/pw S))) (.slice qa (zl (X/pw S)).length qc)).st2 ((bs7.setCell _ _).setCell _ _) (by decide) (.bool (zneg (X%pw S))) (.slice ra (zl (X%pw S)).length rc)
  have hr2:=(hr.st2 as6 (by decide) (.bool (zneg (X/pw S))) (.slice qa (zl (X/pw S)).length qc)).st2 ((bs7.setCell _ _).setCell _ _) (by decide) (.bool (zneg (X%pw S))) (.slice ra (zl (X%pw S)).length rc)
  have hbS:=(((hb.setCell (p:=⟨g9,0,none⟩) hg9 (.bool (zneg (X/pw S)))).setCell (p:=⟨g9,1,none⟩) hg9 (.slice qa (zl (X/pw S)).length qc)).setCell (p:=⟨g10,0,none⟩) hg10 (.bool (zneg (X%pw S)))).setCell (p:=⟨g10,1,none⟩) hg10 (.slice ra (zl (X%pw S)).length rc)
  obtain ⟨W2,hW2⟩: ∃W,W=((((wn.setCell ⟨g9,0,none⟩ (.bool (zneg (X/pw S)))).setCell ⟨g9,1,none⟩ (.slice qa (zl (X/pw S)).length qc)).setCell ⟨g10,0,none⟩ (.bool (zneg (X%pw S)))).setCell ⟨g10,1,none⟩ (.slice ra (zl (X%pw S)).length rc)):=⟨_,rfl⟩
  rw [←hW2] at zL zT hq2 hr2 hbS ⊢
  replace zA:=zA.below hbS
  replace zR:=zR.below hbS
  replace zX:=zX.below hbS
  replace yb:=below_trans yb hbS
  have hW1s:=hbS.size
  clear hW2 a60 a61 af0 af1 as6 b70 b71 bf0 bf1 bs7 z9 z10 hq hr hb hbS DV ZP HNX
  obtain ⟨LW,hLW⟩: ∃z,z=X/pw S:=⟨_,rfl⟩
  obtain ⟨LF,hLF⟩: ∃z,z=X%pw S:=⟨_,rfl⟩
  rw [←hLW] at zL hq2
  rw [←hLF] at zT hr2
  have HLW:=hid hLW
  have HLF:=hid hLF
  clear hLW hLF
  have ZS:=hid (fun w h=>zsign_any ra rc LF w h)
  obtain ⟨q10,q11,-,-,-⟩:=id zT
  by_cases hz:LF=0
  ·have hmk:=CP2.out.1.1 (by rw [←HLF.out];exact hz)
   have HE:=hid (MF.out hmk)
   have hz0:cmpI LF 0=0:=by rw [hz];rfl
   rw [hz0] at ZS
   clear hmk hz hz0 MF CP2
   go_wp2_with (go_at_call 121;(with_reducible refine (ZS.out _ hr2).mono ?_);rintro en w3 ⟨rfl,hb3⟩;have zA3:=zA.below hb3;have zR3:=zR.below hb3;have yb3:=below_trans yb hb3;obtain ⟨⟨j0,j1,-,-,-⟩,j2,-⟩:=id zA3;obtain ⟨⟨k0,k1,f0,f1,hs2⟩,k2,f2⟩:=id zR3)
   refine bodyPost_ret (by simp [results,Tryz.results205,go_sem,k0,k1,k2];try rfl) rfl ?_
   have yf:=((yb3.setCell (p:=⟨w.heap.size+1,0,none⟩) (by show w.heap.size≤w.heap.size+1;omega) (.bool (zneg y))).setCell (p:=⟨w.heap.size+1,1,none⟩) (by show w.heap.size≤w.heap.size+1;omega) (.slice a0 (zl y).length c0)).setCell (p:=⟨w.heap.size+1,2,none⟩) (by show w.heap.size≤w.heap.size+1;omega) (.int .i64 (m:Int))
   rw [HE.out.1,HE.out.2]
   exact ⟨_,rfl,(HVD.out _ yf).weak (by omega) (by omega),yf⟩
  ·have HE:=hid (CP2.out.2 (by rw [←HLF.out];exact hz))
   have hpS:=pw_pos S
   have hz1:cmpI LF 0=1:=by
    have h9:0≤LF:=by rw [HLF.out];exact Int.emod_nonneg _ (by omega)
    unfold cmpI;rw [if_neg (by omega),if_pos (by omega)]
   rw [hz1] at ZS
   have hlLW:(zl LW).length≤900000:=by
    have h9:=ct_bound (S:=S) (b:=false) HXA.out
    rw [if_neg (by simp),Int.add_zero,←HLW.out] at h9
    exact Nat.le_trans (zl_len_bits LW _ h9) (by omega)
   have hlLF:(zl LF).length≤900000:=by
    have h9:LF<pw S:=by rw [HLF.out];exact Int.emod_lt_of_pos _ hpS
    have h8:0≤LF:=by rw [HLF.out];exact Int.emod_nonneg _ (by omega)
    have h7:LF.natAbs<2^S:=by rw [pw_nat] at h9;omega
    exact Nat.le_trans (zl_len_bits LF _ h7) (by omega)
   clear hz hz1 MF CP2 HVD H0 zA hpS
   have ZAD:=hid (fun w h=>zadd_any ra ra rc rc LF LF w h h (by omega) (by omega))
   have ZP:=hid (fun w=>zpow_any S w (by omega))
   obtain ⟨NR,hNR⟩: ∃z,z=cmpI (LF+LF) (pw S):=⟨_,rfl⟩
   have ZC:=hid (show ∀a c b d w,Nz 3 w a c (zl (LF+LF))→Nz 3 w b d (zl (pw S))→Calls Tryz.prog 117 #[.agg #[.bool (zneg (LF+LF)),.slice a (zl (LF+LF)).length c],.agg #[.bool (zneg (pw S)),.slice b (zl (pw S)).length d]] w fun e w'=>e=.returned (.int .i64 NR)∧Below w.heap.size w w' from fun a c b d w h0 h1=>by rw [hNR];exact zcmp_any a b c d (LF+LF) (pw S) w h0 h1)
   have HNR:=hid hNR
   clear hNR hlLF
   obtain ⟨⟨j0,j1,-,-,-⟩,j2,-⟩:=id zX
   go_upto_region 6 with (go_at_call 121;(with_reducible refine (ZS.out _ hr2).mono ?_);rintro en w3 ⟨rfl,hb3⟩;have zX3:=zX.below hb3;obtain ⟨⟨l0,l1,-,-,-⟩,l2,-⟩:=id zX3)
   have zL3:=zL.below hb3
   have zT3:=zT.below hb3
   have zR3:=zR.below hb3
   have hq3:=hq2.below hb3
   have hr3:=hr2.below hb3
   have yb3:=below_trans yb hb3
   have hW3s:=hb3.size
   clear zX zL zT zR hq2 hr2 yb hb3 ZS j0 j1 j2 l0 l1 l2 q10 q11
   refine wp_region_grow 8 [36,37,38,39,40,41,42,12] [Fact.is (.agg #[.bool (zneg LF),.slice ra (zl LF).length rc]),Fact.is (.agg #[.bool (zneg LF),.slice ra (zl LF).length rc]),Fact.z 3 (LF+LF),Fact.is (.pointer (some ⟨gx,2,none⟩)),Fact.is (.int .i64 (S:Int)),Fact.z 3 (pw S),Fact.is (.int .i64 NR),Fact.is (.int .i64 NR)] (by kernel_rfl) (by kernel_rfl) ⟨?o0,?o1,?o2,?o3,?o4,?o5,?o6,?o7,trivial⟩ ?after
   case o0=>(refine oQ rfl ?_;intro ρ w1 R hcon hfn hρ hb hp hR;have e10:ρ (.tmp 10)=.pointer (some ⟨g10,0,none⟩):=hρ.tmp 10 rfl;obtain ⟨j0,j1,-,-,-⟩:=zT3.below hb;clear hρ hp;unfold OpRun;go_simp;exact hR _ _ (Below.refl _ _) rfl)
   case o1=>(refine oQ rfl ?_;intro ρ w1 R hcon hfn hρ hb hp hR;have e10:ρ (.tmp 10)=.pointer (some ⟨g10,0,none⟩):=hρ.tmp 10 rfl;obtain ⟨j0,j1,-,-,-⟩:=zT3.below hb;clear hρ hp;unfold OpRun;go_simp;exact hR _ _ (Below.refl _ _) rfl)
   case o2=>(refine oQ rfl ?_;intro ρ w1 R hcon hfn hρ hb hp hR;have e36:ρ (.tmp 36)=_:=hp 0 36 rfl rfl;have e37:ρ (.tmp 37)=_:=hp 1 37 rfl rfl;clear hρ hp;unfold OpRun;go_simp;(refine (ZAD.out _ (hr3.below hb)).mono ?_;rintro e wn ⟨az,cz,rfl,hz9,hbn⟩;exact ⟨_,rfl,hR _ _ hbn ⟨az,cz,rfl,hz9⟩⟩))
   case o3=>(refine oQ rfl ?_;intro ρ w1 R hcon hfn hρ hb hp hR;have e8:ρ (.tmp 8)=.pointer (some ⟨gx,0,none⟩):=hρ.tmp 8 rfl;clear hρ hp;unfold OpRun;go_simp;exact hR _ _ (Below.refl _ _) rfl)
   case o4=>(refine oQ rfl ?_;intro ρ w1 R hcon hfn hρ hb hp hR;have e39:ρ (.tmp 39)=_:=hp 3 39 rfl rfl;obtain ⟨⟨j0,j1,-,-,-⟩,j2,-⟩:=zX3.below hb;clear hρ hp;unfold OpRun;go_simp;exact hR _ _ (Below.refl _ _) rfl)
   case o5=>(refine oQ rfl ?_;intro ρ w1 R hcon hfn hρ hb hp hR;have e40:ρ (.tmp 40)=_:=hp 4 40 rfl rfl;clear hρ hp;unfold OpRun;go_simp;(refine (ZP.out _).mono ?_;rintro e wn ⟨az,cz,rfl,hz9,hbn⟩;exact ⟨_,rfl,hR _ _ hbn ⟨az,cz,rfl,hz9⟩⟩))
   case o6=>(refine oQ rfl ?_;intro ρ w1 R hcon hfn hρ hb hp hR;have f38:=hp 2 38 rfl rfl;have f41:=hp 5 41 rfl rfl;obtain ⟨a38,c38,e38,hz38⟩:=f38;obtain ⟨a41,c41,e41,hz41⟩:=f41;clear hρ hp;unfold OpRun;go_simp;(refine (ZC.out _ _ _ _ _ hz38 hz41).mono ?_;rintro e wn ⟨rfl,hbn⟩;exact ⟨_,rfl,hR _ _ hbn rfl⟩))
   case o7=>(refine oQ rfl ?_;intro ρ w1 R hcon hfn hρ hb hp hR;have e42:ρ (.tmp 42)=_:=hp 6 42 rfl rfl;clear hρ hp;unfold OpRun;go_simp;exact hR _ _ (Below.refl _ _) rfl)
   case after=>
    intro u wn hb hf
    have e12:u 12=_:=hf 7 12 (by omega) rfl
    clear hf
    simp only [putAll,Act.put,List.setIfInBounds_toArray,List.set_cons_zero,List.set_cons_succ,List.drop_succ_cons,List.drop_zero,List.drop_nil]
    rw [e12]
    replace zL3:=zL3.below hb
    replace zR3:=zR3.below hb
    replace hq3:=hq3.below hb
    replace yb3:=below_trans yb3 hb
    have hW4s:=hb.size
    obtain ⟨W4,hW4⟩: ∃W,W=wn:=⟨_,rfl⟩
    subst hW4
    clear zX3 zT3 hr3 hb ZAD ZP ZC
    have ZN2:=hid (zN_any 2 (by omega))
    have DV2:=hid (fun v w h0 h1=>zdiv_v qa qc LW 2 v w h0 h1 (by omega) (by have:=zl_len_bits 2 2 (by decide);omega) (by omega))
    go_upto_region 7 with fail
    refine wp_region_growL 8 5 [44,45,46,43,47,48,13,14] [Fact.is (.agg #[.bool (zneg LW),.slice qa (zl LW).length qc]),Fact.z 3 2,Fact.z2 3 (LW/2) (LW%2),Fact.z2 3 (LW/2) (LW%2),Fact.z 3 (LW/2),Fact.z 3 (LW%2),Fact.z0 W4.heap.size 31,Fact.z0 W4.heap.size 31] [6,7] (by kernel_rfl) (by kernel_rfl) rfl ⟨?o0,?o1,?o2,?o3,?o4,?o5,?o6,?o7,trivial⟩ ?late (fun d _ _ _ _ h=>by cases d<;>exact h) ?after
    case o0=>(refine oQF rfl ?_;intro ρ w1 R hcon hfn hρ hb hp hR;have e9:ρ (.tmp 9)=.pointer (some ⟨g9,0,none⟩):=hρ.tmp 9 rfl;obtain ⟨j0,j1,-,-,-⟩:=zL3.below hb;replace hR:=fun v w2 h1 h2=>hR v w2 h1 h2 (fun h=>absurd h (by decide));clear hρ hp;unfold OpRun;go_simp;exact hR _ _ (Below.refl _ _) rfl)
    case o1=>(refine oQF rfl ?_;intro ρ w1 R hcon hfn hρ hb hp hR;replace hR:=fun v w2 h1 h2=>hR v w2 h1 h2 (fun h=>absurd h (by decide));clear hρ hp;unfold OpRun;go_simp;(refine (ZN2.out _).mono ?_;rintro e wn ⟨az,cz,rfl,hz9,hbn⟩;exact ⟨_,rfl,hR _ _ hbn ⟨az,cz,rfl,hz9⟩⟩))
    case o2=>(refine oQF rfl ?_;intro ρ w1 R hcon hfn hρ hb hp hR;have e44:ρ (.tmp 44)=_:=hp 0 44 rfl rfl;have f45:=hp 1 45 rfl rfl;replace hR:=fun v w2 h1 h2=>hR v w2 h1 h2 (fun h=>absurd h (by decide));clear hρ hp;unfold OpRun;go_simp;(refine (DV2.out _ _ (hq3.below hb) f45).mono ?_;rintro e wn ⟨ao,cap,bo,cbp,rfl,hq,hr,hbn⟩;exact ⟨_,rfl,hR _ _ hbn ⟨ao,cap,bo,cbp,rfl,hq,hr⟩⟩))
    case o3=>(refine oQF rfl ?_;intro ρ w1 R hcon hfn hρ hb hp hR;have f46:=hp 2 46 rfl rfl;replace hR:=fun v w2 h1 h2=>hR v w2 h1 h2 (fun h=>absurd h (by decide));clear hρ hp;unfold OpRun;go_simp;exact hR _ _ (Below.refl _ _) f46)
    case o4=>(refine oQF rfl ?_;intro ρ w1 R hcon hfn hρ hb hp hR;have f43:=hp 3 43 rfl rfl;replace hR:=fun v w2 h1 h2=>hR v w2 h1 h2 (fun h=>absurd h (by decide));clear hρ hp;unfold OpRun;go_simp;(obtain ⟨ao,cap,bo,cbp,e12,hq,hr⟩:=f43;rw [e12];exact hR _ _ (Below.refl _ _) ⟨_,_,rfl,hq⟩))
    case o5=>(refine oQF rfl ?_;intro ρ w1 R hcon hfn hρ hb hp hR;have f43:=hp 3 43 rfl rfl;replace hR:=fun v w2 h1 h2=>hR v w2 h1 h2 (fun h=>absurd h (by decide));clear hρ hp;unfold OpRun;go_simp;(obtain ⟨ao,cap,bo,cbp,e12,hq,hr⟩:=f43;rw [e12];exact hR _ _ (Below.refl _ _) ⟨_,_,rfl,hr⟩))
    case o6=>(refine oQF rfl ?_;intro ρ w1 R hcon hfn hρ hb hp hR;clear hρ hp;unfold OpRun;go_simp;exact hR _ _ (below_alloc _ _) ⟨_,rfl,hb.size,ZL.made rfl⟩ (fun _=>⟨_,rfl,Nat.le_refl _,by simp⟩))
    case o7=>(refine oQF rfl ?_;intro ρ w1 R hcon hfn hρ hb hp hR;clear hρ hp;unfold OpRun;go_simp;exact hR _ _ (below_alloc _ _) ⟨_,rfl,hb.size,ZL.made rfl⟩ (fun _=>⟨_,rfl,Nat.le_refl _,by simp⟩))
    case late=>
     intro o ho
     simp only [List.getElem?_cons_succ,List.getElem?_cons_zero,Option.some.injEq] at ho
     subst ho
     refine ⟨rfl,?_⟩
     intro ρ w1 hρ hb hp
     have f43:=hp 3 43 rfl rfl
     obtain ⟨ao,cap,bo,cbp,e43,hq,hr⟩:=f43
     refine ⟨_,?_,⟨_,_,rfl,hr⟩⟩
     intro w2
     have hcon:=hρ.con
     go_simp
     try rfl
    case after=>
     intro u wn hb hf hd
     have f47:=hf 4 47 (by omega) rfl
     have f48:=hf 5 48 (by omega) rfl
     have f13:=hf 6 13 (by omega) rfl
     have f14:=hf 7 14 (by omega) rfl
     have d13_14:u 13≠u 14:=hd 6 7 13 14 (by omega) (by omega) (by omega) rfl rfl rfl rfl
     clear hf hd
     simp only [putAll,Act.put,List.setIfInBounds_toArray,List.set_cons_zero,List.set_cons_succ,List.drop_succ_cons,List.drop_zero,List.drop_nil]
     obtain ⟨ma,mc,e47,hmq⟩:=f47
     obtain ⟨oa,oc,e48,ho⟩:=f48
     obtain ⟨g13,e13,hg13,z13⟩:=f13
     obtain ⟨g14,e14,hg14,z14⟩:=f14
     have h34:g13≠g14:=by intro h;apply d13_14;rw [e13,e14,h]
     have h43:=h34.symm
     rw [e47,e48,e13,e14]
     clear e47 e48 e13 e14 d13_14
     obtain ⟨a60,a61,af0,af1,as6⟩:=id z13
     obtain ⟨b70,b71,bf0,bf1,bs7⟩:=id z14
     go_upto_region 8 with fail
     have zO:=(((z14.far ⟨g13,0,none⟩ (.bool (zneg (LW/2))) h43).far ⟨g13,1,none⟩ (.slice ma (zl (LW/2)).length mc) h43).set0 (zneg (LW%2))).set1 (.slice oa (zl (LW%2)).length oc)
     have ho2:=(ho.st2 as6 (by decide) (.bool (zneg (LW/2))) (.slice ma (zl (LW/2)).length mc)).st2 ((bs7.setCell _ _).setCell _ _) (by decide) (.bool (zneg (LW%2))) (.slice oa (zl (LW%2)).length oc)
     have hbS:=(((hb.setCell (p:=⟨g13,0,none⟩) hg13 (.bool (zneg (LW/2)))).setCell (p:=⟨g13,1,none⟩) hg13 (.slice ma (zl (LW/2)).length mc)).setCell (p:=⟨g14,0,none⟩) hg14 (.bool (zneg (LW%2)))).setCell (p:=⟨g14,1,none⟩) hg14 (.slice oa (zl (LW%2)).length oc)
     obtain ⟨W5,hW5⟩: ∃W,W=((((wn.setCell ⟨g13,0,none⟩ (.bool (zneg (LW/2)))).setCell ⟨g13,1,none⟩ (.slice ma (zl (LW/2)).length mc)).setCell ⟨g14,0,none⟩ (.bool (zneg (LW%2)))).setCell ⟨g14,1,none⟩ (.slice oa (zl (LW%2)).length oc)):=⟨_,rfl⟩
     rw [←hW5] at zO ho2 hbS ⊢
     replace zL3:=zL3.below hbS
     replace zR3:=zR3.below hbS
     replace hq3:=hq3.below hbS
     replace yb3:=below_trans yb3 hbS
     have hW5s:=hbS.size
     clear hW5 a60 a61 af0 af1 as6 b70 b71 bf0 bf1 bs7 z13 z14 hmq ho hb hbS ZN2 DV2
     have HU:Hid (ctUp X S mode=upR (zneg X) mode NR (LW+1)):=hid (by
      unfold ctUp ctNear ctLow
      rw [←HLF.out,←HLW.out,←HNR.out];rfl)
     have HO:Hid (ctOut X S mode=LW+(if ctUp X S mode=true then 1 else 0)):=hid (by unfold ctOut ctLow;rw [←HLW.out])
     generalize ctOut X S mode=OUT at *
     generalize ctUp X S mode=UP at *
     have hodd:LW%2=0∨LW%2=1:=by omega
     have hodd2:(LW+1)%2=1-LW%2:=by omega
     generalize LW%2=OD at *
     have ZS2:=hid (fun w h=>zsign_any oa oc OD w h)
     go_cut [15] (fun s1 wx=>s1=.bool (decide (mode=1∨(mode=3∧zneg X=true)∨((mode=0∨mode=4)∧0<NR)))∧wx=W5)
     case first=>
      clear HU HO HLW HLF HNR HXA zL3 zR3 hq3 yb3 zO ho2 hodd hodd2 ZS2
      generalize zneg X=NG at *
      obtain rfl|rfl|rfl|rfl|rfl:mode=0∨mode=1∨mode=2∨mode=3∨mode=4:=by omega
      ·go_wp2_with fail
       go_meet
       exact ⟨by simp,rfl⟩
      ·go_wp2_with fail
       go_meet
       exact ⟨by simp,rfl⟩
      ·go_wp2_with fail
       go_meet
       exact ⟨by simp,rfl⟩
      ·cases NG
       ·go_wp2_with fail
        go_meet
        exact ⟨by simp,rfl⟩
       ·go_wp2_with fail
        go_meet
        exact ⟨by simp,rfl⟩
      ·go_wp2_with fail
       go_meet
       exact ⟨by simp,rfl⟩
     case rest=>
     obtain ⟨rfl,rfl⟩:=hcut
     obtain ⟨U0,hU0⟩: ∃b,b=decide (mode=1∨(mode=3∧zneg X=true)∨((mode=0∨mode=4)∧0<NR)):=⟨_,rfl⟩
     rw [←hU0]
     have HU0:=hid hU0
     clear hU0
     obtain ⟨W6,hW6⟩: ∃W,W=wc:=⟨_,rfl⟩
     subst hW6
     go_upto_region 9 with fail
     go_cut [75] (fun s1 wx=>s1=.bool (decide (NR=0∧mode=0))∧wx=W6)
     case first=>
      by_cases hn0:NR=0
      ·have hnb:(NR==0)=true:=beq_iff_eq.2 hn0
       have HE9:=hid (show decide (NR=0∧mode=0)=(mode==0) by rw [Bool.eq_iff_iff,decide_eq_true_eq,beq_iff_eq];exact ⟨fun h=>h.2,fun h=>⟨hn0,h⟩⟩)
       clear hn0
       go_wp2_with fail
       go_meet
       exact ⟨by rw [HE9.out],rfl⟩
      ·have hnb:(NR==0)=false:=beq_eq_false_iff_ne.2 hn0
       have HE9:=hid (show decide (NR=0∧mode=0)=false from decide_eq_false (fun h=>hn0 h.1))
       clear hn0
       go_wp2_with fail
       go_meet
       exact ⟨by rw [HE9.out],rfl⟩
     case rest=>
     obtain ⟨rfl,rfl⟩:=hcut
     obtain ⟨W6,hW6⟩: ∃W,W=wc:=⟨_,rfl⟩
     subst hW6
     go_upto_if 75 with fail
     go_cut [15] (fun s1 wx=>s1=.bool (if NR=0∧mode=0 then decide (OD=1) else U0)∧Below W6.heap.size W6 wx)
     case first=>
      by_cases hc:NR=0∧mode=0
      ·rw [decide_eq_true hc]
       have HE9:=hid (show (if NR=0∧mode=0 then decide (OD=1) else U0)=decide (0<cmpI OD 0) from by
        rw [if_pos hc]
        rcases hodd with h|h<;>rw [h]<;>rfl)
       have hcm:decide (0<cmpI OD 0)=decide (OD=1):=by
        rcases hodd with h|h<;>rw [h]<;>rfl
       have ZS3:=hid (show ∀w,Nz 3 w oa oc (zl OD)→Calls Tryz.prog 121 #[.agg #[.bool (zneg OD),.slice oa (zl OD).length oc]] w fun e w'=>e=.returned (.int .i64 (cmpI OD 0))∧Below w.heap.size w w' from ZS2.out)
       obtain ⟨o0,o1,-,-,-⟩:=id zO
       generalize cmpI OD 0=SO at *
       clear hc hcm
       go_wp2_with (go_at_call 121;(with_reducible refine (ZS3.out _ ho2).mono ?_);rintro en w7 ⟨rfl,hb7⟩)
       go_meet
       exact ⟨by rw [HE9.out],hb7⟩
      ·rw [decide_eq_false hc]
       have HE9:=hid (show (if NR=0∧mode=0 then decide (OD=1) else U0)=U0 from if_neg hc)
       go_wp2_with fail
       go_meet
       exact ⟨by rw [HE9.out],Below.refl _ _⟩
     case rest=>
     obtain ⟨rfl,hbx⟩:=hcut
     replace zL3:=zL3.below hbx
     replace zR3:=zR3.below hbx
     replace hq3:=hq3.below hbx
     replace yb3:=below_trans yb3 hbx
     have hW6s:=hbx.size
     obtain ⟨W7,hW7⟩: ∃W,W=wc:=⟨_,rfl⟩
     subst hW7
     clear hbx zO ho2 ZS2
     obtain ⟨U1,hU1⟩: ∃b,b=(if NR=0∧mode=0 then decide (OD=1) else U0):=⟨_,rfl⟩
     rw [←hU1]
     have HU1:=hid hU1
     clear hU1
     go_upto_region 11 with fail
     go_cut [84] (fun s1 wx=>s1=.bool (decide (NR=0∧mode=4))∧wx=W7)
     case first=>
      by_cases hn0:NR=0
      ·have hnb:(NR==0)=true:=beq_iff_eq.2 hn0
       have HE9:=hid (show decide (NR=0∧mode=4)=(mode==4) by rw [Bool.eq_iff_iff,decide_eq_true_eq,beq_iff_eq];exact ⟨fun h=>h.2,fun h=>⟨hn0,h⟩⟩)
       clear hn0
       go_wp2_with fail
       go_meet
       exact ⟨by rw [HE9.out],rfl⟩
      ·have hnb:(NR==0)=false:=beq_eq_false_iff_ne.2 hn0
       have HE9:=hid (show decide (NR=0∧mode=4)=false from decide_eq_false (fun h=>hn0 h.1))
       clear hn0
       go_wp2_with fail
       go_meet
       exact ⟨by rw [HE9.out],rfl⟩
     case rest=>
     obtain ⟨rfl,rfl⟩:=hcut
     obtain ⟨W7,hW7⟩: ∃W,W=wc:=⟨_,rfl⟩
     subst hW7
     go_upto_if 84 with fail
     go_cut [15] (fun s1 wx=>s1=.bool UP∧wx=W7)
     case first=>
      have HUP:=hid (show UP=if NR=0∧mode=4 then !(zneg X) else U1 by
       rw [HU.out,HU1.out,HU0.out]
       unfold upR
       by_cases h1:NR=0∧mode=0
       ·rw [if_pos h1,if_neg (by omega),if_pos h1]
        rw [hodd2]
        exact decide_eq_decide.2 (by omega)
       ·rw [if_neg h1,if_neg h1])
      generalize zneg X=NG at *
      by_cases hc:NR=0∧mode=4
      ·have H8:=HUP.out
       rw [if_pos hc] at H8
       rw [decide_eq_true hc]
       have HX8:=hid H8
       clear hc H8 HUP HU HU0 HU1
       go_wp2_with fail
       go_meet
       exact ⟨by rw [HX8.out],rfl⟩
      ·have H8:=HUP.out
       rw [if_neg hc] at H8
       rw [decide_eq_false hc]
       have HX8:=hid H8
       clear hc H8 HUP HU HU0 HU1
       go_wp2_with fail
       go_meet
       exact ⟨by rw [HX8.out],rfl⟩
     case rest=>
     obtain ⟨rfl,rfl⟩:=hcut
     obtain ⟨W7,hW7⟩: ∃W,W=wc:=⟨_,rfl⟩
     subst hW7
     have hOA:OUT.natAbs<2^(A+400000+1):=by
      rw [HO.out,HLW.out];exact ct_bound HXA.out
     have QM:=hid (fun a c w h=>qmake_any a c OUT p (A+400000+1) 20000 w h hOA (by omega) (by omega) (by omega))
     have hne:w.heap.size+1≠g9:=by omega
     have hge:w.heap.size≤g9:=by omega
     clear hOA HU HU0 HU1 HLF HNR HXA hodd hodd2
     go_upto_region 13 with fail
     go_cut [87] (fun s1 wx=>s1=.bool UP∧wx=W7)
     case first=>
      go_wp2_with fail
      go_meet
      exact ⟨rfl,rfl⟩
     case rest=>
     obtain ⟨rfl,rfl⟩:=hcut
     obtain ⟨W7,hW7⟩: ∃W,W=wc:=⟨_,rfl⟩
     subst hW7
     go_upto_if 87 with fail
     go_cut [] (fun wx=>ZV 31 3 wx g9 OUT∧QL 33 wx (w.heap.size+1) false (.slice none 0 0) 0∧Below w.heap.size w wx)
     case first=>
      cases UP
      ·have HO2:=hid (show OUT=LW by rw [HO.out,if_neg (by simp)];omega)
       go_wp2_with fail
       go_meet
       rw [HO2.out]
       exact ⟨⟨_,_,zL3,hq3⟩,zR3,yb3⟩
      ·have HO2:=hid (show OUT=LW+1 by rw [HO.out,if_pos rfl])
       have ZN1:=hid (zN_any 1 (by omega))
       have ZA1:=hid (fun a c w h0 h1=>zadd_any qa a qc c LW 1 w h0 h1 (by omega) (by have:=zl_len_bits 1 1 (by decide);omega))
       clear HO QM
       go_upto_region 14 with fail
       refine wp_region_grow 3 [88,89,90] [Fact.is (.agg #[.bool (zneg LW),.slice qa (zl LW).length qc]),Fact.z 3 1,Fact.z 3 (LW+1)] (by kernel_rfl) (by kernel_rfl) ⟨?o0,?o1,?o2,trivial⟩ ?after
       case o0=>(refine oQ rfl ?_;intro ρ w1 R hcon hfn hρ hb hp hR;have e9:ρ (.tmp 9)=.pointer (some ⟨g9,0,none⟩):=hρ.tmp 9 rfl;obtain ⟨j0,j1,-,-,-⟩:=zL3.below hb;clear hρ hp;unfold OpRun;go_simp;exact hR _ _ (Below.refl _ _) rfl)
       case o1=>(refine oQ rfl ?_;intro ρ w1 R hcon hfn hρ hb hp hR;clear hρ hp;unfold OpRun;go_simp;(refine (ZN1.out _).mono ?_;rintro e wn ⟨az,cz,rfl,hz9,hbn⟩;exact ⟨_,rfl,hR _ _ hbn ⟨az,cz,rfl,hz9⟩⟩))
       case o2=>(refine oQ rfl ?_;intro ρ w1 R hcon hfn hρ hb hp hR;have e88:ρ (.tmp 88)=_:=hp 0 88 rfl rfl;have f89:=hp 1 89 rfl rfl;obtain ⟨a89,c89,e89,hz89⟩:=f89;clear hρ hp;unfold OpRun;go_simp;(skip;refine (ZA1.out _ _ _ (hq3.below hb) hz89).mono ?_;rintro e wn ⟨az,cz,rfl,hz9,hbn⟩;exact ⟨_,rfl,hR _ _ hbn ⟨az,cz,rfl,hz9⟩⟩))
       case after=>
        intro u wn hb hf
        have f90:=hf 2 90 (by omega) rfl
        clear hf
        simp only [putAll,Act.put,List.setIfInBounds_toArray,List.set_cons_zero,List.set_cons_succ,List.drop_succ_cons,List.drop_zero,List.drop_nil]
        obtain ⟨an,cn,e90,hn⟩:=f90
        rw [e90]
        have zL4:=zL3.below hb
        obtain ⟨j0,j1,jf0,jf1,js⟩:=id zL4
        go_wp2_with fail
        go_meet
        rw [HO2.out]
        exact ⟨ZV.store zL4 hn (by decide),((zR3.below hb).farD _ _ hne).farD _ _ hne,((below_trans yb3 hb).setCell (p:=⟨g9,0,none⟩) hge _).setCell (p:=⟨g9,1,none⟩) hge _⟩
     case rest=>
     obtain ⟨⟨an,cn,zL8,hn8⟩,zR8,yb8⟩:=hcut
     obtain ⟨j0,j1,-,-,-⟩:=id zL8
     clear zL3 zR3 hq3 yb3
     obtain ⟨W8,hW8⟩: ∃W,W=wc:=⟨_,rfl⟩
     subst hW8
     go_upto_region 15 with fail
     go_cut [7] (fun s7 wx=>s7=.bool true∧ ∃(xo:Int) (no:Nat) (ao:Option Addr) (co:Nat),QL 33 wx (w.heap.size+1) (zneg xo) (.slice ao (zl xo).length co) (no:Int)∧QD 3 wx (nrm OUT p) 900000 200000 (.agg #[.bool (zneg xo),.slice ao (zl xo).length co,.int .i64 (no:Int)])∧Below w.heap.size w wx)
     case first=>
      go_wp2_with (go_at_call 109;(with_reducible refine (QM.out _ _ _ hn8).mono ?_);rintro en w9 ⟨v9,rfl,⟨xo,no,ao,co,rfl,hNo,hDo,hAo,hTo⟩,hb9⟩;have zR9:=zR8.below hb9;have yb9:=below_trans yb8 hb9;obtain ⟨⟨k0,k1,f0,f1,hs2⟩,k2,f2⟩:=id zR9)
      go_meet
      exact ⟨rfl,xo,no,ao,co,zR9.put _ _ _,QD.weak (A:=A+400000+1+20000) (T:=20000) ⟨xo,no,ao,co,rfl,hNo.set3Q zR9 (by decide) _ _ _,hDo,hAo,hTo⟩ (by omega) (by omega),((yb9.setCell (by first|omega|(simp;done)|(simp;omega)) _).setCell (by first|omega|(simp;done)|(simp;omega)) _).setCell (by first|omega|(simp;done)|(simp;omega)) _⟩
     case rest=>
     obtain ⟨rfl,xo,no,ao,co,zR9,hQ9,yb9⟩:=hcut
     obtain ⟨⟨k0,k1,f0,f1,hs2⟩,k2,f2⟩:=id zR9
     rename_i K9 hK9
     refine hK9 _ _ ?_
     refine wp_ret ?_
     refine bodyPost_ret (by simp [results,Tryz.results205,go_sem,k0,k1,k2];try rfl) rfl ?_
     rw [←HE.out.1,HE.out.2]
     exact ⟨_,rfl,hQ9,yb9⟩
end Go.Proofs.YtfphmlmgjhebjaaGreatDoor
