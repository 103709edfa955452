/- TopTold: what the proof leans on, part 15 (Re7). -/
import Derived.Lib.AtoiErrMem
import Derived.Test.YtfphmlmgjhebjaaGreatDoorKTopTold7
import Derived.Test.YtfphmlmgjhebjaaGreatDoorKTopTold10
import Derived.Test.YtfphmlmgjhebjaaGreatDoorKTopTold13
import Derived.Test.YtfphmlmgjhebjaaGreatDoorKTopTold14
set_option linter.unusedVariables false
set_option linter.unusedSimpArgs false
namespace Go.Ulp
open Go.RowKit
theorem AllDg.take {L:List UInt8} (h:AllDg L) (k:Nat):AllDg (L.take k):=fun b hb=>h b (List.mem_of_mem_take hb)
theorem AllDg.drop {L:List UInt8} (h:AllDg L) (k:Nat):AllDg (L.drop k):=fun b hb=>h b (List.mem_of_mem_drop hb)
theorem dvA_split (acc k:Nat) (L:List UInt8):dvA acc L=dvA (acc*10^(L.take k).length+dvl (L.take k)) (L.drop k):=by
 conv=>lhs;rw [←List.take_append_drop k L]
 rw [dvA_app,dvA_acc (L.take k)]
end Go.Ulp
namespace Go.Proofs.YtfphmlmgjhebjaaGreatDoor
open Go.RowKit Go.Ulp
set_option maxHeartbeats 2000000
set_option maxRecDepth 100000
theorem natRead_any (L:List UInt8) (w:World) (hL:AllDg L) (hl:L.length≤2000):
 Calls Tryz.prog 158 #[.string (bsOf L)] w (RetNc w (dvl L)):=by
 obtain ⟨Z,hZ⟩: ∃Z,Z=dvl L:=⟨_,rfl⟩
 rw [←hZ]
 go_enter Tryz.func158,Tryz.ntmps158
 go_wp2_with fail
 go_loopw [0,3] (fun s0 s3 wr=> ∃(Q:List UInt8) (x:Nat) (a:Option Addr) (c:Nat),s0=.string (bsOf Q)∧s3=.slice a (limbs x).length c∧Ns .u32 wr a c (limbs x)∧AllDg Q∧dvA x Q=Z∧Q.length≤2000∧x<10^(2000-Q.length)∧Below w.heap.size w wr) (fun s0 _ _=>strSz s0)
 case atStart=>exact ⟨L,0,none,0,rfl,rfl,Ns.nil,hL,hZ.symm,hl,Nat.pow_pos (by omega),Below.refl _ _⟩
 case round=>
  obtain ⟨Q,x,a,c,rfl,rfl,hN,hQ,hx,hq,hxl,hb⟩:=hrel
  by_cases hQ0:Q= []
  ·subst hQ0
   have e:x=Z:=hx
   subst e
   have HN:=hid hN
   clear hN hx
   have hsz:(bsOf []).size=0:=rfl
   go_wp2_with fail
   go_ret
   exact ⟨a,c,rfl,HN.out,hb⟩
  ·have hq0:0<Q.length:=List.length_pos_iff.2 hQ0
   obtain ⟨k,hk⟩: ∃k:Nat,k=min Q.length 9:=⟨_,rfl⟩
   have hk1:0<k∧k≤9∧k≤Q.length:=by omega
   have hmn:min (Q.length:Int) 9=(k:Int):=by omega
   have hsz:=bs_size Q
   have S1:=slice_to (P:=Tryz.prog) Tryz.underlying9 Q (k:Int) (by omega) (by omega)
   have S2:=slice_from (P:=Tryz.prog) Tryz.underlying9 Q (k:Int) (by omega) (by omega)
   rw [Int.toNat_natCast] at S1 S2
   have htl:(Q.take k).length=k:=by rw [List.length_take];omega
   have hdl:(Q.drop k).length=Q.length-k:=List.length_drop
   obtain ⟨y,hy⟩: ∃y,y=dvl (Q.take k):=⟨_,rfl⟩
   have hyb:y<10^9:=by
    have h1:=dvl_lt (Q.take k) (hQ.take k)
    rw [htl,←hy] at h1
    exact Nat.lt_of_lt_of_le h1 (Nat.pow_le_pow_right (by omega) (by omega))
   have PU:=hid (show ∀w,Calls Tryz.prog 171 #[.string (bsOf (Q.take k)),.int .i64 10,.int .i64 64] w fun e w'=>e=.returned (.tuple #[.int .u64 (y:Int),.nilIface])∧Below w.heap.size w w' from fun w=>by
    refine (Tryz.strconv_ParseUint (bsOf (Q.take k)) (by rw [bs_size,htl];omega) y (by rw [bs_list,hy];exact parse_dv _ (hQ.take k) (fun h=>by rw [h] at htl;rw [List.length_nil] at htl;omega) (by omega)) w).mono ?_
    rintro e w1 ⟨rfl,h⟩
    refine ⟨rfl,?_⟩
    rcases h with rfl|rfl
    ·exact Below.refl _ _
    ·exact Lib.bytesWorld_below _ _ _)
   have PW:=hid (fun w=>pow10_any k (by omega) w)
   obtain ⟨E,hE⟩: ∃E:Nat,E=2000:=⟨_,rfl⟩
   have hx1:10^(2000-Q.length)≤10^E:=Nat.pow_le_pow_right (by omega) (by omega)
   have lx:=limbs_ten E (by omega)
   have lx1:(limbs x).length≤3002:=Nat.le_trans (limbs_len_mono (by omega)) lx
   have lk:=limbs_ten k (by omega)
   have TI:=hid (fun a c b d w h0 h1=>times_any a b c d x (10^k) w h0 h1 (by omega) (by omega))
   have hxn:x*10^k+y<10^(2000-(Q.length-k)):=by
    have h1:y<10^k:=by rw [hy];have:=dvl_lt (Q.take k) (hQ.take k);rw [htl] at this;exact this
    have h2:(x+1)*10^k≤10^(2000-Q.length)*10^k:=Nat.mul_le_mul_right _ hxl
    rw [←Nat.pow_add,show 2000-Q.length+k=2000-(Q.length-k) by omega,Nat.add_mul,Nat.one_mul] at h2
    omega
   have hx2:10^(2000-(Q.length-k))≤10^E:=Nat.pow_le_pow_right (by omega) (by omega)
   have lt1:(limbs (x*10^k)).length≤3002:=Nat.le_trans (limbs_len_mono (by omega)) lx
   have ly:(limbs y).length≤3002:=Nat.le_trans (limbs_len_mono (by have:10^9≤10^E:=Nat.pow_le_pow_right (by omega) (by omega);omega)) lx
   have OF:=hid (fun w=>natOf_any y (by omega) w)
   have PL:=hid (fun a c b d w h0 h1=>plus_any a b c d (x*10^k) y w h0 h1 (by omega) (by omega))
   have hnx:dvA (x*10^k+y) (Q.drop k)=Z:=by rw [←hx,dvA_split x k Q,htl,hy]
   have hQd:=hQ.drop k
   have HN:=hid hN
   have HX:=hid hnx
   have HM:=hid (show (Q.drop k).length<Q.length by omega)
   have HD:=hid hxn
   rw [←hdl] at HD
   have hdl2:(Q.drop k).length≤2000:=by omega
   obtain ⟨n,hn⟩: ∃n,n=Q.length:=⟨_,rfl⟩
   rw [←hn] at hmn hsz hq0 hk1
   obtain ⟨X,hX⟩: ∃X,X=x*10^k:=⟨_,rfl⟩
   rw [←hX] at TI PL HX HD
   obtain ⟨T,hT⟩: ∃T,T=10^k:=⟨_,rfl⟩
   rw [←hT] at TI PW
   clear hE hN hnx hxn hx1 hx2 lx lx1 lk lt1 ly hX hT hn htl hdl hy hx hxl hk
   go_wp2_with (first
    |(go_at_call 171;(with_reducible refine (PU.out _).mono ?_);rintro en w1 ⟨rfl,hb1⟩)
    |(go_at_call 159;(with_reducible refine (PW.out _).mono ?_);rintro en w2 ⟨a2,c2,rfl,hN2,hb2⟩)
    |(go_at_call 157;(with_reducible refine (TI.out _ _ _ _ _ (HN.out.below (below_trans hb1 hb2)) hN2).mono ?_);rintro en w3 ⟨a3,rfl,hN3,hb3⟩)
    |(go_at_call 95;(with_reducible refine (OF.out _).mono ?_);rintro en w4 ⟨a4,rfl,hN4,hb4⟩)
    |(go_at_call 163;(with_reducible refine (PL.out _ _ _ _ _ (hN3.below hb4) hN4).mono ?_);rintro en w5 ⟨a5,rfl,hN5,hb5⟩))
   go_roundw
   case rel=>exact ⟨Q.drop k,X+y,a5,_,rfl,rfl,hN5,hQd,HX.out,hdl2,HD.out,below_trans (below_trans (below_trans (below_trans (below_trans hb hb1) hb2) hb3) hb4) hb5⟩
   case measure=>rw [strSz_bs,strSz_bs];exact HM.out
end Go.Proofs.YtfphmlmgjhebjaaGreatDoor
namespace Go.Ulp
open Go.RowKit
def rkc (n:Nat) (k:Int):Int:=min (max k (-2500-(n:Int))) 2500
def rdNum (Z n:Nat) (k:Int):Nat:=Z*10^(rkc n k).toNat
def rdDen (n:Nat) (k:Int):Nat:=10^(-(rkc n k)).toNat
theorem rdDen_pos (n:Nat) (k:Int):0<rdDen n k:=Nat.pow_pos (by omega)
def RdOk (A B M:Nat) (e:Int):Prop:=0<M∧ ∃s:Nat,0≤e+1074+s∧SameC s ((M*2^(e+1074+s).toNat:Nat):Int) 1074 A B
theorem ten_two (n:Nat):2^(3*n)≤10^n:=by
 rw [Nat.pow_mul];exact Nat.pow_le_pow_left (by omega) n
theorem rvi_tv: ∃F:Nat,F=2098∧rvi 9218868437227405312=2^F:=⟨52+2046,rfl,rvi_pow 2046⟩
theorem rd_high (Z n:Nat) (k:Int) (hn:1≤n) (hn2:n≤1000) (hZ:10^(n-1)≤Z) (h:400<(n:Int)+k):RdOk (rdNum Z n k) (rdDen n k) 1 2000:=by
 obtain ⟨E,hE⟩: ∃E:Nat,E=400:=⟨_,rfl⟩
 have hAB:rdDen n k*10^E≤rdNum Z n k:=by
  unfold rdDen rdNum
  have h1:10^(n-1)*10^(rkc n k).toNat≤Z*10^(rkc n k).toNat:=Nat.mul_le_mul_right _ hZ
  refine Nat.le_trans ?_ h1
  rw [←Nat.pow_add,←Nat.pow_add]
  exact Nat.pow_le_pow_right (by omega) (by unfold rkc;omega)
 have hB:=rdDen_pos n k
 obtain ⟨A,hA⟩: ∃A,A=rdNum Z n k:=⟨_,rfl⟩
 obtain ⟨B,hB2⟩: ∃B,B=rdDen n k:=⟨_,rfl⟩
 rw [←hA,←hB2] at hAB ⊢
 rw [←hB2] at hB
 have h10:=ten_two E
 obtain ⟨F,hF⟩: ∃F:Nat,F=1025:=⟨_,rfl⟩
 have hp:2^F≤10^E:=Nat.le_trans (Nat.pow_le_pow_right (by omega) (by omega)) h10
 refine ⟨by omega,0,by omega,?_⟩
 obtain ⟨F2,hF2,hv⟩:=rvi_tv
 obtain ⟨K,hK⟩: ∃K:Nat,K=1074:=⟨_,rfl⟩
 have g1: ∀X:Nat,2098<X→2^F2<2^X:=fun X hX=>Nat.pow_lt_pow_right (by omega) (by omega)
 have g2:2^F2*B<A*2^K:=by
  have h2:B*2^F≤A:=Nat.le_trans (Nat.mul_le_mul_left B hp) hAB
  have h3:B*2^F*2^K≤A*2^K:=Nat.mul_le_mul_right _ h2
  refine Nat.lt_of_lt_of_le ?_ h3
  rw [Nat.mul_assoc,←Nat.pow_add,Nat.mul_comm]
  exact Nat.mul_lt_mul_of_pos_left (g1 _ (by omega)) hB
 rw [hK] at g2
 rw [←hv] at g1 g2
 refine same_high 0 _ 1074 A B ?_ g2
 rw [Nat.pow_zero,Nat.mul_one,Nat.one_mul]
 exact g1 _ (by omega)
theorem rd_low (Z n:Nat) (k:Int) (hZ0:0<Z) (hZ:Z<10^n) (h:(n:Int)+k< -400):RdOk (rdNum Z n k) (rdDen n k) 1 (-2000):=by
 obtain ⟨E,hE⟩: ∃E:Nat,E=400:=⟨_,rfl⟩
 have hk:rkc n k<0:=by unfold rkc;omega
 have hA:rdNum Z n k=Z:=by unfold rdNum;rw [show (rkc n k).toNat=0 by omega,Nat.pow_zero,Nat.mul_one]
 have hB:10^n*10^E≤rdDen n k:=by
  unfold rdDen
  rw [←Nat.pow_add]
  exact Nat.pow_le_pow_right (by omega) (by unfold rkc at *;omega)
 rw [hA]
 obtain ⟨B,hB2⟩: ∃B,B=rdDen n k:=⟨_,rfl⟩
 rw [←hB2] at hB ⊢
 have h10:=ten_two E
 obtain ⟨F,hF⟩: ∃F:Nat,F=1074:=⟨_,rfl⟩
 have hp:2^(F+1)≤10^E:=Nat.le_trans (Nat.pow_le_pow_right (by omega) (by omega)) h10
 have g1:2*(1*2^(-2000+1074+((2000:Nat):Int)).toNat)<2^2000:=by
  obtain ⟨K,hK⟩: ∃K:Nat,K=(-2000+1074+((2000:Nat):Int)).toNat:=⟨_,rfl⟩
  have g: ∀S:Nat,1075<S→2*(1*2^K)<2^S:=fun S hS=>by
   rw [Nat.one_mul,Nat.mul_comm,←Nat.pow_succ]
   exact Nat.pow_lt_pow_right (by omega) (by omega)
  rw [←hK]
  exact g 2000 (by decide)
 refine ⟨by omega,2000,by omega,?_⟩
 refine same_low 2000 _ 1074 Z B ?_ ?_ ?_ ?_
 ·rw [Nat.one_mul];exact Nat.two_pow_pos _
 ·exact g1
 ·exact Nat.mul_pos hZ0 (Nat.two_pow_pos 1074)
 ·have h2:Z*2^(F+1)<10^n*2^(F+1):=Nat.mul_lt_mul_of_pos_right hZ (Nat.two_pow_pos _)
  have h3:10^n*2^(F+1)≤10^n*10^E:=Nat.mul_le_mul_left _ hp
  rw [Nat.pow_succ,←Nat.mul_assoc,Nat.mul_comm _ 2,hF] at h2
  rw [hF] at h3
  omega
theorem rd_exact (Z n:Nat) (k:Int) (hZ0:0<Z) (h0:0≤k) (h1:k≤2500):RdOk (rdNum Z n k) (rdDen n k) (od (Z*10^k.toNat)) (tw (Z*10^k.toNat):Int):=by
 have hk:rkc n k=k:=by unfold rkc;omega
 have hA:rdNum Z n k=Z*10^k.toNat:=by unfold rdNum;rw [hk]
 have hB:rdDen n k=1:=by unfold rdDen;rw [hk,show (-k).toNat=0 by omega,Nat.pow_zero]
 rw [hA,hB]
 have hp:0<Z*10^k.toNat:=Nat.mul_pos hZ0 (Nat.pow_pos (by omega))
 obtain ⟨N,hN⟩: ∃N,N=Z*10^k.toNat:=⟨_,rfl⟩
 rw [←hN] at hp ⊢
 obtain ⟨o1,o2⟩:=od_tw N hp
 refine ⟨by omega,0,by omega,?_⟩
 have e1:od N*2^((tw N:Int)+1074+((0:Nat):Int)).toNat=N*2^1074:=by
  rw [show ((tw N:Int)+1074+((0:Nat):Int)).toNat=tw N+1074 by omega,Nat.pow_add,←Nat.mul_assoc,o1]
 rw [e1]
 exact same_exact 1074 N
theorem rd_ratio (Z n:Nat) (k:Int) (hZ0:0<Z) (h0:k<0) (h1: -2500≤k) (M N:Nat) (hM:M=od Z) (hN:N=od (10^(-k).toNat)) (e:Int) (he:e=(tw Z:Int)-(tw (10^(-k).toNat):Int)-(rK M N:Int)-2):
 RdOk (rdNum Z n k) (rdDen n k) (qst M N (rK M N)) e:=by
 have hk:rkc n k=k:=by unfold rkc;omega
 have hA:rdNum Z n k=Z:=by unfold rdNum;rw [hk,show k.toNat=0 by omega,Nat.pow_zero,Nat.mul_one]
 have hB:rdDen n k=10^(-k).toNat:=by unfold rdDen;rw [hk]
 rw [hA,hB]
 have hp:0<10^(-k).toNat:=Nat.pow_pos (by omega)
 obtain ⟨T,hT⟩: ∃T,T=10^(-k).toNat:=⟨_,rfl⟩
 rw [←hT] at hp hN he ⊢
 obtain ⟨o1,o2⟩:=od_tw Z hZ0
 obtain ⟨p1,p2⟩:=od_tw T hp
 rw [←hM] at o1 o2
 rw [←hN] at p1 p2
 have hM0:0<M:=by omega
 have hN0:0<N:=by omega
 have hq:=qfloor_big M N hM0 hN0
 have hZe:M*2^tw Z=Z:=o1
 have hTe:N*2^tw T=T:=p1
 have h79:(1152921504606846976:Nat)≤2^79:=by decide
 have hs:0<qst M N (rK M N):=by unfold qst;split<;>omega
 obtain ⟨s,hs2⟩: ∃s:Nat,s=tw T+rK M N+2:=⟨_,rfl⟩
 refine ⟨hs,s,by omega,?_⟩
 have h:=same_mark 1074 s M N (tw Z) (tw T) (rK M N) (M*2^rK M N/N) (M*2^rK M N%N) (if M*2^rK M N%N=0 then 0 else 1) (e+1074+s).toNat hN0 (Nat.div_add_mod _ _).symm (Nat.mod_lt _ hN0) rfl (by omega) (by omega)
 rw [hZe,hTe] at h
 exact h
end Go.Ulp
namespace Go.Proofs.YtfphmlmgjhebjaaGreatDoor
open Go.RowKit Go.Ulp
set_option maxHeartbeats 4000000
set_option maxRecDepth 100000
theorem ratio_big (n0 n1:Bool) (am bm:Option Addr) (cm dm M N:Nat) (e0 e1:Int) (w:World) (hN:Ns .u32 w am cm (limbs M)) (hM:Ns .u32 w bm dm (limbs N)) (B:Nat) (hB:B≤6000) (m1:M<2^B) (m2:N<2^B) (m3:0<N) (he0: -10000≤e0∧e0≤10000) (he1: -10000≤e1∧e1≤10000):
 Calls Tryz.prog 103 #[.agg #[.bool n0,.slice am (limbs M).length cm,.int .i64 e0],.agg #[.bool n1,.slice bm (limbs N).length dm,.int .i64 e1]] w (RetDy w (n0 !=n1) (qst M N (rK M N)) (e0-e1-(rK M N:Int)-2)):=by
 have HN:=hid hN
 have HM:=hid hM
 have hcap:=hN.1
 have hcap2:=hN.2.1
 have hdap:=hM.1
 have hdap2:=hM.2.1
 unfold maxLen at hcap2 hdap2
 have lM:=limbs_short B 200 (by omega) M m1
 have lN:=limbs_short B 200 (by omega) N m2
 have b1:=(bl_le M B).2 m1
 have b2:=(bl_le N B).2 m2
 have LM:=hid (fun w h=>natLen_any am cm M w h (by omega))
 have LN:=hid (fun w h=>natLen_any bm dm N w h (by omega))
 obtain ⟨K,hK⟩: ∃K,K=rK M N:=⟨_,rfl⟩
 have hmx:=rK_max M N
 rw [←hK] at hmx ⊢
 have hKb:K≤6080:=by omega
 obtain ⟨A,hA⟩: ∃A,A=M*2^K:=⟨_,rfl⟩
 have hAb:A<2^(B+6080):=by
  rw [hA]
  have h:=Nat.mul_lt_mul_of_pos_right m1 (Nat.two_pow_pos K)
  rw [←Nat.pow_add] at h
  exact Nat.lt_of_lt_of_le h (Nat.pow_le_pow_right (by omega) (by omega))
 have lA:=limbs_short (B+6080) 500 (by omega) A hAb
 have LE:=hid (show ∀w,Ns .u32 w am cm (limbs M)→Calls Tryz.prog 172 #[.slice am (limbs M).length cm,.int .i64 (K:Int)] w fun e w'=>RetN w A e w' from fun w h=>by
  rw [hA];exact leftN_any am cm M K w h (by omega) (by omega))
 obtain ⟨q,hq⟩: ∃q,q=A/N:=⟨_,rfl⟩
 obtain ⟨r,hr⟩: ∃r,r=A%N:=⟨_,rfl⟩
 have hqA:q≤A:=by rw [hq];exact Nat.div_le_self _ _
 have lq:=limbs_short (B+6080) 500 (by omega) q (by omega)
 have OV:=hid (show ∀a c w,Ns .u32 w a c (limbs A)→Ns .u32 w bm dm (limbs N)→Calls Tryz.prog 177 #[.slice a (limbs A).length c,.slice bm (limbs N).length dm] w fun e w'=>RetNN w q r e w' from fun a c w h0 h1=>by
  rw [hq,hr];exact over_any a bm c dm A N w h0 h1 (by omega) m3)
 have hQ9:(4*q+if decide (0<(limbs r).length)=true then 1 else 0)=qst M N K:=by
  unfold qst
  rw [←hA,←hq,←hr]
  congr 1
  by_cases h:r=0
  ·rw [if_pos h,h,limbs_zero];rfl
  ·have h2:0<(limbs r).length:=by
    rcases Nat.eq_zero_or_pos (limbs r).length with h9|h9
    ·exact absurd ((limbs_nil r).1 (List.length_eq_zero_iff.1 h9)) h
    ·exact h9
   rw [if_neg h,decide_eq_true h2,if_pos rfl]
 have ST:=hid (show ∀a c w,Ns .u32 w a c (limbs q)→Calls Tryz.prog 178 #[.bool (!(n0==n1)),.slice a (limbs q).length c,.bool (decide (0<(limbs r).length)),.int .i64 (e0-e1-(K:Int))] w (RetDy w (n0 !=n1) (qst M N K) (e0-e1-(K:Int)-2)) from fun a c w h=>by
  have h9:=sticky_any (!(n0==n1)) (decide (0<(limbs r).length)) a c q (e0-e1-(K:Int)) w h (by omega) (by omega)
  rw [hQ9] at h9;exact h9)
 obtain ⟨X,hX⟩: ∃X,X=qst M N K:=⟨_,rfl⟩
 rw [←hX] at ST ⊢
 have lr:(limbs r).length≤500:=limbs_short (B+6080) 500 (by omega) r (by have:=Nat.mod_le A N;omega)
 have w1:IntKind.i64.wrap (80+(bl N:Int))=80+(bl N:Int):=IntWalk.i64_in _ (by omega)
 have w2:IntKind.i64.wrap (80+(bl N:Int)-(bl M:Int))=80+(bl N:Int)-(bl M:Int):=IntWalk.i64_in _ (by omega)
 have w3:IntKind.i64.wrap (e0-e1)=e0-e1:=IntWalk.i64_in _ (by omega)
 have w4:IntKind.i64.wrap (e0-e1-(K:Int))=e0-e1-(K:Int):=IntWalk.i64_in _ (by omega)
 generalize bl M=bM at *
 generalize bl N=bN at *
 clear hN hM hK hA hq hr hqA hAb m1 m2 m3 hQ9 hX
 have zA:QL 67 (((w.alloc (.cells #[.bool n0,.slice am (limbs M).length cm,.int .i64 e0] 67)).alloc (.cells #[.bool n1,.slice bm (limbs N).length dm,.int .i64 e1] 67)).alloc (.cells #[.bool false,.slice none 0 0,.int .i64 0] 67)) w.heap.size n0 (.slice am (limbs M).length cm) e0:=((QL.made rfl).alloc _).alloc _
 have zB:QL 67 (((w.alloc (.cells #[.bool n0,.slice am (limbs M).length cm,.int .i64 e0] 67)).alloc (.cells #[.bool n1,.slice bm (limbs N).length dm,.int .i64 e1] 67)).alloc (.cells #[.bool false,.slice none 0 0,.int .i64 0] 67)) (w.heap.size+1) n1 (.slice bm (limbs N).length dm) e1:=(QL.made (by first|omega|(simp;done)|(simp;omega))).alloc _
 have zR0:QL 67 (((w.alloc (.cells #[.bool n0,.slice am (limbs M).length cm,.int .i64 e0] 67)).alloc (.cells #[.bool n1,.slice bm (limbs N).length dm,.int .i64 e1] 67)).alloc (.cells #[.bool false,.slice none 0 0,.int .i64 0] 67)) (w.heap.size+1+1) false (.slice none 0 0) 0:=QL.made (by first|omega|(simp;done)|(simp;omega))
 have yb0:Below w.heap.size w (((w.alloc (.cells #[.bool n0,.slice am (limbs M).length cm,.int .i64 e0] 67)).alloc (.cells #[.bool n1,.slice bm (limbs N).length dm,.int .i64 e1] 67)).alloc (.cells #[.bool false,.slice none 0 0,.int .i64 0] 67)):=by (repeat' first|(with_reducible first|assumption|apply bR|apply bA|apply bN|apply bD|apply bL|apply bS)|refine bT ?_ (by assumption)|go_size)
 go_enter Tryz.func103,Tryz.ntmps103
 go_upto_region 1 with fail
 refine wp_region_grow 10 [8,9,10,11,12,13,14,15,16,5] [Fact.is (.pointer (some ⟨w.heap.size+1,1,none⟩)),Fact.is (.slice bm (limbs N).length dm),Fact.is (.int .i64 (bN:Int)),Fact.is (.int .i64 (80+(bN:Int))),Fact.is (.pointer (some ⟨w.heap.size,1,none⟩)),Fact.is (.slice am (limbs M).length cm),Fact.is (.int .i64 (bM:Int)),Fact.is (.int .i64 (80+(bN:Int)-(bM:Int))),Fact.is (.int .i64 (K:Int)),Fact.is (.int .i64 (K:Int))] (by kernel_rfl) (by kernel_rfl) ⟨?o0,?o1,?o2,?o3,?o4,?o5,?o6,?o7,?o8,?o9,trivial⟩ ?after
 case o0=>(refine oQ rfl ?_;intro ρ w1 R hcon hfn hρ hb hp hR;have e3:ρ (.tmp 3)=.pointer (some ⟨w.heap.size+1,0,none⟩):=hρ.tmp 3 rfl;clear hρ hp;unfold OpRun;go_simp;exact hR _ _ (Below.refl _ _) rfl)
 case o1=>(refine oQ rfl ?_;intro ρ w1 R hcon hfn hρ hb hp hR;have e8:ρ (.tmp 8)=_:=hp 0 8 rfl rfl;obtain ⟨⟨j0,j1,-,-,-⟩,j2,-⟩:=zB.below hb;clear hρ hp;unfold OpRun;go_simp;exact hR _ _ (Below.refl _ _) rfl)
 case o2=>(refine oQ rfl ?_;intro ρ w1 R hcon hfn hρ hb hp hR;have e9:ρ (.tmp 9)=_:=hp 1 9 rfl rfl;clear hρ hp;unfold OpRun;go_simp;(refine (LN.out _ (HM.out.below (below_trans yb0 hb))).mono ?_;rintro e wn ⟨rfl,rfl⟩;exact ⟨_,rfl,hR _ _ (Below.refl _ _) rfl⟩))
 case o3=>(refine oQ rfl ?_;intro ρ w1 R hcon hfn hρ hb hp hR;have e10:ρ (.tmp 10)=_:=hp 2 10 rfl rfl;clear hρ hp;unfold OpRun;go_simp;exact hR _ _ (Below.refl _ _) rfl)
 case o4=>(refine oQ rfl ?_;intro ρ w1 R hcon hfn hρ hb hp hR;have e2:ρ (.tmp 2)=.pointer (some ⟨w.heap.size,0,none⟩):=hρ.tmp 2 rfl;clear hρ hp;unfold OpRun;go_simp;exact hR _ _ (Below.refl _ _) rfl)
 case o5=>(refine oQ rfl ?_;intro ρ w1 R hcon hfn hρ hb hp hR;have e12:ρ (.tmp 12)=_:=hp 4 12 rfl rfl;obtain ⟨⟨j0,j1,-,-,-⟩,j2,-⟩:=zA.below hb;clear hρ hp;unfold OpRun;go_simp;exact hR _ _ (Below.refl _ _) rfl)
 case o6=>(refine oQ rfl ?_;intro ρ w1 R hcon hfn hρ hb hp hR;have e13:ρ (.tmp 13)=_:=hp 5 13 rfl rfl;clear hρ hp;unfold OpRun;go_simp;(refine (LM.out _ (HN.out.below (below_trans yb0 hb))).mono ?_;rintro e wn ⟨rfl,rfl⟩;exact ⟨_,rfl,hR _ _ (Below.refl _ _) rfl⟩))
 case o7=>(refine oQ rfl ?_;intro ρ w1 R hcon hfn hρ hb hp hR;have e11:ρ (.tmp 11)=_:=hp 3 11 rfl rfl;have e14:ρ (.tmp 14)=_:=hp 6 14 rfl rfl;clear hρ hp;unfold OpRun;go_simp;exact hR _ _ (Below.refl _ _) rfl)
 case o8=>(refine oQ rfl ?_;intro ρ w1 R hcon hfn hρ hb hp hR;have e15:ρ (.tmp 15)=_:=hp 7 15 rfl rfl;clear hρ hp;unfold OpRun;go_simp;exact hR _ _ (Below.refl _ _) rfl)
 case o9=>(refine oQ rfl ?_;intro ρ w1 R hcon hfn hρ hb hp hR;have e16:ρ (.tmp 16)=_:=hp 8 16 rfl rfl;clear hρ hp;unfold OpRun;go_simp;exact hR _ _ (Below.refl _ _) rfl)
 case after=>
  intro u wn hb hf
  have e5:u 5=_:=hf 9 5 (by omega) rfl
  clear hf
  simp only [putAll,Act.put,List.setIfInBounds_toArray,List.set_cons_zero,List.set_cons_succ,List.drop_succ_cons,List.drop_zero,List.drop_nil]
  rw [e5]
  have zA1:=zA.below hb
  have zB1:=zB.below hb
  have zR1:=zR0.below hb
  have yb1:=below_trans yb0 hb
  have HN1:=hid (HN.out.below yb1)
  have HM1:=hid (HM.out.below yb1)
  obtain ⟨W1,hW1⟩: ∃W,W=wn:=⟨_,rfl⟩
  subst hW1
  clear zA zB zR0 yb0 hb HN HM LM LN w1 w2 hmx
  go_upto_region 2 with fail
  refine wp_region_grow 12 [18,19,20,21,22,23,24,17,25,26,6,7] [Fact.is (.pointer (some ⟨w.heap.size,1,none⟩)),Fact.is (.slice am (limbs M).length cm),Fact.is (.int .i64 (K:Int)),Fact.li A,Fact.is (.pointer (some ⟨w.heap.size+1,1,none⟩)),Fact.is (.slice bm (limbs N).length dm),Fact.nn q r,Fact.nn q r,Fact.li q,Fact.li r,Fact.li q,Fact.li r] (by kernel_rfl) (by kernel_rfl) ⟨?o0,?o1,?o2,?o3,?o4,?o5,?o6,?o7,?o8,?o9,?o10,?o11,trivial⟩ ?after
  case o0=>(refine oQ rfl ?_;intro ρ w1 R hcon hfn hρ hb hp hR;have e2:ρ (.tmp 2)=.pointer (some ⟨w.heap.size,0,none⟩):=hρ.tmp 2 rfl;clear hρ hp;unfold OpRun;go_simp;exact hR _ _ (Below.refl _ _) rfl)
  case o1=>(refine oQ rfl ?_;intro ρ w1 R hcon hfn hρ hb hp hR;have e18:ρ (.tmp 18)=_:=hp 0 18 rfl rfl;obtain ⟨⟨j0,j1,-,-,-⟩,j2,-⟩:=zA1.below hb;clear hρ hp;unfold OpRun;go_simp;exact hR _ _ (Below.refl _ _) rfl)
  case o2=>(refine oQ rfl ?_;intro ρ w1 R hcon hfn hρ hb hp hR;have e5:ρ (.tmp 5)=.int .i64 (K:Int):=hρ.tmp 5 rfl;clear hρ hp;unfold OpRun;go_simp;exact hR _ _ (Below.refl _ _) rfl)
  case o3=>(refine oQ rfl ?_;intro ρ w1 R hcon hfn hρ hb hp hR;have e19:ρ (.tmp 19)=_:=hp 1 19 rfl rfl;have e20:ρ (.tmp 20)=_:=hp 2 20 rfl rfl;clear hρ hp;unfold OpRun;go_simp;(refine (LE.out _ (HN1.out.below hb)).mono ?_;rintro e wn ⟨a9,rfl,hn9,hbn⟩;exact ⟨_,rfl,hR _ _ hbn ⟨a9,_,rfl,hn9⟩⟩))
  case o4=>(refine oQ rfl ?_;intro ρ w1 R hcon hfn hρ hb hp hR;have e3:ρ (.tmp 3)=.pointer (some ⟨w.heap.size+1,0,none⟩):=hρ.tmp 3 rfl;clear hρ hp;unfold OpRun;go_simp;exact hR _ _ (Below.refl _ _) rfl)
  case o5=>(refine oQ rfl ?_;intro ρ w1 R hcon hfn hρ hb hp hR;have e22:ρ (.tmp 22)=_:=hp 4 22 rfl rfl;obtain ⟨⟨j0,j1,-,-,-⟩,j2,-⟩:=zB1.below hb;clear hρ hp;unfold OpRun;go_simp;exact hR _ _ (Below.refl _ _) rfl)
  case o6=>(refine oQ rfl ?_;intro ρ w1 R hcon hfn hρ hb hp hR;have f21:=hp 3 21 rfl rfl;have e23:ρ (.tmp 23)=_:=hp 5 23 rfl rfl;obtain ⟨a9,c9,e21,hn9⟩:=f21;clear hρ hp;unfold OpRun;go_simp;(skip;refine (OV.out _ _ _ hn9 (HM1.out.below hb)).mono ?_;rintro e wn ⟨ao,cap,bo,cbp,rfl,hq,hr,hbn⟩;exact ⟨_,rfl,hR _ _ hbn ⟨ao,cap,bo,cbp,rfl,hq,hr⟩⟩))
  case o7=>(refine oQ rfl ?_;intro ρ w1 R hcon hfn hρ hb hp hR;have f24:=hp 6 24 rfl rfl;clear hρ hp;unfold OpRun;go_simp;exact hR _ _ (Below.refl _ _) f24)
  case o8=>(refine oQ rfl ?_;intro ρ w1 R hcon hfn hρ hb hp hR;have f17:=hp 7 17 rfl rfl;clear hρ hp;unfold OpRun;go_simp;(obtain ⟨ao,cap,bo,cbp,e12,hq,hr⟩:=f17;rw [e12];exact hR _ _ (Below.refl _ _) ⟨_,_,rfl,hq⟩))
  case o9=>(refine oQ rfl ?_;intro ρ w1 R hcon hfn hρ hb hp hR;have f17:=hp 7 17 rfl rfl;clear hρ hp;unfold OpRun;go_simp;(obtain ⟨ao,cap,bo,cbp,e12,hq,hr⟩:=f17;rw [e12];exact hR _ _ (Below.refl _ _) ⟨_,_,rfl,hr⟩))
  case o10=>(refine oQ rfl ?_;intro ρ w1 R hcon hfn hρ hb hp hR;have f25:=hp 8 25 rfl rfl;clear hρ hp;unfold OpRun;go_simp;exact hR _ _ (Below.refl _ _) f25)
  case o11=>(refine oQ rfl ?_;intro ρ w1 R hcon hfn hρ hb hp hR;have f26:=hp 9 26 rfl rfl;clear hρ hp;unfold OpRun;go_simp;exact hR _ _ (Below.refl _ _) f26)
  case after=>
   intro u wn hb hf
   have f6:=hf 10 6 (by omega) rfl
   have f7:=hf 11 7 (by omega) rfl
   clear hf
   simp only [putAll,Act.put,List.setIfInBounds_toArray,List.set_cons_zero,List.set_cons_succ,List.drop_succ_cons,List.drop_zero,List.drop_nil]
   obtain ⟨a6,c6,e6,h6⟩:=f6
   obtain ⟨a7,c7,e7,h7⟩:=f7
   rw [e6,e7]
   have zA2:=zA1.below hb
   have zB2:=zB1.below hb
   have zR2:=zR1.below hb
   have yb2:=below_trans yb1 hb
   obtain ⟨W2,hW2⟩: ∃W,W=wn:=⟨_,rfl⟩
   subst hW2
   have H6:=hid h6
   have hc7:=h7.1
   have hc7b:=h7.2.1
   unfold maxLen at hc7b
   clear zA1 zB1 zR1 yb1 hb HN1 HM1 h6 h7 e6 e7 LE OV
   go_upto_region 3 with fail
   obtain ⟨⟨j0,j1,-,-,-⟩,j2,-⟩:=id zA2
   obtain ⟨⟨l0,l1,-,-,-⟩,l2,-⟩:=id zB2
   go_wp2_with (go_at_call 178;(with_reducible refine (ST.out _ _ _ H6.out).mono ?_);rintro en w3 ⟨a3,c3,rfl,hN3,hb3⟩;have zR3:=zR2.below hb3;obtain ⟨⟨k0,k1,f0,f1,hs2⟩,k2,f2⟩:=id zR3;have yb3:=below_trans yb2 hb3)
   refine bodyPost_ret (by simp [results,Tryz.results103,go_sem,k0,k1,k2];try rfl) rfl ?_
   exact ⟨a3,c3,rfl,hN3.set3 zR3 (by intro x h;cases h) _ _ _,((yb3.setCell (by first|omega|(simp;done)|(simp;omega)) _).setCell (by first|omega|(simp;done)|(simp;omega)) _).setCell (by first|omega|(simp;done)|(simp;omega)) _⟩
end Go.Proofs.YtfphmlmgjhebjaaGreatDoor
namespace Go.Ulp
open Go.RowKit
def Fact.dyx (n:Bool) (m:Nat) (x:Int):Fact:=⟨fun v w=> ∃am cm,v=.agg #[.bool n,.slice am (limbs m).length cm,.int .i64 x]∧Ns .u32 w am cm (limbs m),fun _ _ _ h hb=>by
 obtain ⟨am,cm,h1,h2⟩:=h
 exact ⟨am,cm,h1,h2.below hb⟩⟩
def RetRV (w:World) (neg:Bool) (A B:Nat) (e:Ending) (w':World):Prop:= ∃M x,RetDy w neg M x e w'∧RdOk A B M x∧(limbs M).length≤10000∧ -100000≤x∧x≤100000
theorem sg_decide (neg:Bool) (m:Nat) (h:0<m):decide (sg neg (m:Int)<0)=neg:=by cases neg<;>simp [sg]<;>omega
theorem sg_natAbs (neg:Bool) (m:Nat):(sg neg (m:Int)).natAbs=m:=by cases neg<;>simp [sg]
theorem tw_le (N A:Nat) (h:0<N) (hA:N<2^A):tw N<A:=by
 have h1:=(od_tw N h)
 have h2:1*2^tw N≤od N*2^tw N:=Nat.mul_le_mul_right _ (by omega)
 rw [h1.1,Nat.one_mul] at h2
 exact (Nat.pow_lt_pow_iff_right (by omega)).1 (Nat.lt_of_le_of_lt h2 hA)
theorem ten_lt (n:Nat):10^n<2^(4*n+1):=by
 have:10^n≤16^n:=Nat.pow_le_pow_left (by omega) n
 have e:16^n=2^(4*n):=by rw [Nat.pow_mul]
 rw [Nat.pow_succ]
 have:=Nat.two_pow_pos (4*n)
 omega
theorem qst_bdB (M N B:Nat) (m1:M<2^B) (m2:N<2^B) (hN:0<N):qst M N (rK M N)<2^(B+(B+80)+3)∧rK M N≤B+80:=by
 have b2:=(bl_le N B).2 m2
 have hk:rK M N≤B+80:=by unfold rK;omega
 have hA:M*2^rK M N<2^(B+(B+80)):=by
  have h:=Nat.mul_lt_mul_of_pos_right m1 (Nat.two_pow_pos (rK M N))
  rw [←Nat.pow_add] at h
  exact Nat.lt_of_lt_of_le h (Nat.pow_le_pow_right (by omega) (by omega))
 have hd:=Nat.div_le_self (M*2^rK M N) N
 refine ⟨?_,hk⟩
 unfold qst
 rw [Nat.pow_add 2 (B+(B+80)) 3]
 split<;>omega
end Go.Ulp
namespace Go.Proofs.YtfphmlmgjhebjaaGreatDoor
open Go.RowKit Go.Ulp
set_option maxHeartbeats 2000000
set_option maxRecDepth 100000
theorem normX_any (neg:Bool) (a0:Option Addr) (c0 M:Nat) (w:World) (h0:0<M) (hN:Ns .u32 w a0 c0 (limbs M)) (hm:(limbs M).length≤1000000) (hT:Tab 1 w):
 Calls Tryz.prog 156 #[.bool neg,.slice a0 (limbs M).length c0,.int .i64 0] w (RetDy w neg (od M) (tw M:Int)):=by
 refine (normD_any neg a0 c0 M 0 w hN hm (by omega) hT).mono ?_
 rintro e w1 ⟨v,rfl,⟨am,cm,hv,hN1⟩,hb⟩
 rw [nrm_sg neg M 0 h0] at hv hN1
 have h9:=(od_tw M h0).2
 simp only [sg_natAbs] at hv hN1
 rw [sg_decide neg (od M) (by omega),Int.zero_add] at hv
 exact ⟨am,cm,by rw [hv],hN1,hb⟩
theorem value_high (neg:Bool) (L:List UInt8) (k:Int) (w:World) (hL:AllDg L) (hl:1≤L.length∧L.length≤1000) (hZ:10^(L.length-1)≤dvl L) (hk: -2000000≤k∧k≤2000000) (h:400<(L.length:Int)+k):
 Calls Tryz.prog 89 #[.bool neg,.string (bsOf L),.int .i64 k] w (RetRV w neg (rdNum (dvl L) L.length k) (rdDen L.length k)):=by
 have hok:=rd_high (dvl L) L.length k hl.1 hl.2 hZ h
 have OF:=hid (show ∀w,Calls Tryz.prog 95 #[.int .u64 1] w fun e w'=>RetN w 1 e w' from fun w=>natOf_any 1 (by omega) w)
 have hsz:=bs_size L
 have hw:IntKind.i64.wrap ((L.length:Int)+k)=(L.length:Int)+k:=IntWalk.i64_in _ (by omega)
 have zR0:QL 67 (w.alloc (.cells #[.bool false,.slice none 0 0,.int .i64 0] 67)) w.heap.size false (.slice none 0 0) 0:=QL.made rfl
 have yb0:=below_alloc w (.cells #[.bool false,.slice none 0 0,.int .i64 0] 67)
 have l1:(limbs 1).length≤10000:=Nat.le_trans (limbs_short 3 2 (by omega) 1 (by decide)) (by omega)
 have HK:=hid hok
 have HL:=hid l1
 obtain ⟨Q,hQ⟩: ∃Q,Q=bsOf L:=⟨_,rfl⟩
 rw [←hQ] at hsz ⊢
 clear hQ hok l1 hL hZ
 obtain ⟨n,hn⟩: ∃n,n=L.length:=⟨_,rfl⟩
 rw [←hn] at hw h hsz hl HK ⊢
 clear hn
 go_enter Tryz.func89,Tryz.ntmps89
 go_wp2_with (go_at_call 95;(with_reducible refine (OF.out _).mono ?_);rintro en w1 ⟨a1,rfl,hN1,hb1⟩;have zR:=zR0.below hb1;obtain ⟨⟨k0,k1,f0,f1,hs2⟩,k2,f2⟩:=id zR;have yb1:=below_trans yb0 hb1)
 refine bodyPost_ret (by simp [results,Tryz.results89,go_sem,k0,k1,k2];try rfl) rfl ?_
 exact ⟨1,_,⟨a1,_,rfl,hN1.set3 zR (by intro x h;cases h) _ _ _,((yb1.setCell (by first|omega|(simp;done)|(simp;omega)) _).setCell (by first|omega|(simp;done)|(simp;omega)) _).setCell (by first|omega|(simp;done)|(simp;omega)) _⟩,HK.out,HL.out,by omega,by omega⟩
theorem value_low (neg:Bool) (L:List UInt8) (k:Int) (w:World) (hL:AllDg L) (hl:1≤L.length∧L.length≤1000) (hZ:10^(L.length-1)≤dvl L) (hk: -2000000≤k∧k≤2000000) (h:(L.length:Int)+k< -400):
 Calls Tryz.prog 89 #[.bool neg,.string (bsOf L),.int .i64 k] w (RetRV w neg (rdNum (dvl L) L.length k) (rdDen L.length k)):=by
 have hok:=rd_low (dvl L) L.length k (Nat.lt_of_lt_of_le (Nat.pow_pos (by omega)) hZ) (dvl_lt L hL) h
 have OF:=hid (show ∀w,Calls Tryz.prog 95 #[.int .u64 1] w fun e w'=>RetN w 1 e w' from fun w=>natOf_any 1 (by omega) w)
 have hsz:=bs_size L
 have hw:IntKind.i64.wrap ((L.length:Int)+k)=(L.length:Int)+k:=IntWalk.i64_in _ (by omega)
 have zR0:QL 67 (w.alloc (.cells #[.bool false,.slice none 0 0,.int .i64 0] 67)) w.heap.size false (.slice none 0 0) 0:=QL.made rfl
 have yb0:=below_alloc w (.cells #[.bool false,.slice none 0 0,.int .i64 0] 67)
 have l1:(limbs 1).length≤10000:=Nat.le_trans (limbs_short 3 2 (by omega) 1 (by decide)) (by omega)
 have HK:=hid hok
 have HL:=hid l1
 obtain ⟨Q,hQ⟩: ∃Q,Q=bsOf L:=⟨_,rfl⟩
 rw [←hQ] at hsz ⊢
 clear hQ hok l1 hL hZ
 obtain ⟨n,hn⟩: ∃n,n=L.length:=⟨_,rfl⟩
 rw [←hn] at hw h hsz hl HK ⊢
 clear hn
 go_enter Tryz.func89,Tryz.ntmps89
 go_wp2_with (go_at_call 95;(with_reducible refine (OF.out _).mono ?_);rintro en w1 ⟨a1,rfl,hN1,hb1⟩;have zR:=zR0.below hb1;obtain ⟨⟨k0,k1,f0,f1,hs2⟩,k2,f2⟩:=id zR;have yb1:=below_trans yb0 hb1)
 refine bodyPost_ret (by simp [results,Tryz.results89,go_sem,k0,k1,k2];try rfl) rfl ?_
 exact ⟨1,_,⟨a1,_,rfl,hN1.set3 zR (by intro x h;cases h) _ _ _,((yb1.setCell (by first|omega|(simp;done)|(simp;omega)) _).setCell (by first|omega|(simp;done)|(simp;omega)) _).setCell (by first|omega|(simp;done)|(simp;omega)) _⟩,HK.out,HL.out,by omega,by omega⟩
theorem value_whole (neg:Bool) (L:List UInt8) (k:Int) (w:World) (hL:AllDg L) (hl:1≤L.length∧L.length≤1000) (hZ:10^(L.length-1)≤dvl L) (h1:(L.length:Int)+k≤400) (h2:0≤k) (hT:Tab 1 w):
 Calls Tryz.prog 89 #[.bool neg,.string (bsOf L),.int .i64 k] w (RetRV w neg (rdNum (dvl L) L.length k) (rdDen L.length k)):=by
 have hZ0:0<dvl L:=Nat.lt_of_lt_of_le (Nat.pow_pos (by omega)) hZ
 have hZb:=dvl_lt L hL
 obtain ⟨Z,hZe⟩: ∃Z,Z=dvl L:=⟨_,rfl⟩
 obtain ⟨n,hn⟩: ∃n,n=L.length:=⟨_,rfl⟩
 have RD:=hid (fun w=>natRead_any L w hL (by omega))
 have hsz:=bs_size L
 rw [←hZe] at hZ hZ0 hZb RD ⊢
 rw [←hn] at hZ hZb hsz h1 hl ⊢
 try rw [←hn] at h2
 obtain ⟨j,hj⟩: ∃j:Nat,j=k.toNat:=⟨_,rfl⟩
 have hmx:max k 0=(j:Int):=by omega
 have hw:IntKind.i64.wrap ((n:Int)+k)=(n:Int)+k:=IntWalk.i64_in _ (by omega)
 have PW:=hid (fun w=>pow10_any j (by omega) w)
 obtain ⟨B,hB⟩: ∃B:Nat,B=5601:=⟨_,rfl⟩
 have hXb:Z*10^j<2^B:=by
  have g1:Z*10^j<10^n*10^j:=Nat.mul_lt_mul_of_pos_right hZb (Nat.pow_pos (by omega))
  rw [←Nat.pow_add] at g1
  exact Nat.lt_of_lt_of_le (Nat.lt_trans g1 (ten_lt _)) (Nat.pow_le_pow_right (by omega) (by omega))
 have hX0:0<Z*10^j:=Nat.mul_pos hZ0 (Nat.pow_pos (by omega))
 have lZ:(limbs Z).length≤200:=limbs_short B 200 (by omega) Z (Nat.lt_of_le_of_lt (Nat.le_mul_of_pos_right _ (Nat.pow_pos (by omega))) hXb)
 have lT:(limbs (10^j)).length≤200:=limbs_short B 200 (by omega) _ (Nat.lt_of_le_of_lt (Nat.le_mul_of_pos_left _ hZ0) hXb)
 have lX:(limbs (Z*10^j)).length≤200:=limbs_short B 200 (by omega) _ hXb
 have TI:=hid (fun a b c d w h0 h1=>times_any a b c d Z (10^j) w h0 h1 (by omega) (by omega))
 have NO:=hid (fun a c w h t=>normX_any neg a c (Z*10^j) w hX0 h (by omega) t)
 have hM2:od (Z*10^j)<2^B:=Nat.lt_of_le_of_lt (od_le _) hXb
 have lM:(limbs (od (Z*10^j))).length≤200:=limbs_short B 200 (by omega) _ hM2
 have tX:=tw_le _ B hX0 hXb
 have zR0:QL 67 (w.alloc (.cells #[.bool false,.slice none 0 0,.int .i64 0] 67)) w.heap.size false (.slice none 0 0) 0:=QL.made rfl
 have yb0:=below_alloc w (.cells #[.bool false,.slice none 0 0,.int .i64 0] 67)
 have hok:=hid (show RdOk (rdNum Z n k) (rdDen n k) (od (Z*10^j)) (tw (Z*10^j):Int) from by rw [hj];exact rd_exact Z n k hZ0 h2 (by omega))
 have h0:0≤(n:Int)+k:=by omega
 have HT:=hid hT
 have HL:=hid (show (limbs (od (Z*10^j))).length≤10000 by omega)
 have HX:=hid (show (tw (Z*10^j):Int)≤100000 by omega)
 obtain ⟨T,hTe⟩: ∃T,T=10^j:=⟨_,rfl⟩
 rw [←hTe] at PW TI NO hok HL HX
 obtain ⟨Q,hQ⟩: ∃Q,Q=bsOf L:=⟨_,rfl⟩
 rw [←hQ] at hsz RD ⊢
 clear hXb hX0 lZ lT lX hM2 lM tX hZ hZb hTe hQ hZe hn hL hT hB hj
 go_enter Tryz.func89,Tryz.ntmps89
 go_upto_region 6 with (first|(go_at_call 158;(with_reducible refine (RD.out _).mono ?_);rintro en w1 ⟨a1,c1,rfl,hN1,hb1⟩)|(go_at_call 159;(with_reducible refine (PW.out _).mono ?_);rintro en w2 ⟨a2,c2,rfl,hN2,hb2⟩)|(go_at_call 157;(with_reducible refine (TI.out _ _ _ _ _ (hN1.below hb2) hN2).mono ?_);rintro en w3 ⟨a3,rfl,hN3,hb3⟩;have yb3:=below_trans (below_trans (below_trans yb0 hb1) hb2) hb3)|(go_at_call 156;(with_reducible refine (NO.out _ _ _ hN3 (HT.out.below yb3)).mono ?_);rintro en w4 ⟨a4,c4,rfl,hN4,hb4⟩))
 obtain ⟨W1,hW1⟩: ∃W,W=w4.alloc (.cells #[.bool neg,.slice a4 (limbs (od (Z*T))).length c4,.int .i64 (tw (Z*T):Int)] 67):=⟨_,rfl⟩
 have z7:QL 67 W1 w4.heap.size neg (.slice a4 (limbs (od (Z*T))).length c4) (tw (Z*T):Int):=by rw [hW1];exact QL.made rfl
 have z6:QL 67 W1 w.heap.size false (.slice none 0 0) 0:=by rw [hW1];exact (((((zR0.below hb1).below hb2).below hb3).below hb4).alloc _)
 have yb5:Below w.heap.size w W1:=by rw [hW1];exact below_trans (below_trans yb3 hb4) (below_alloc _ _)
 have hN5:Ns .u32 W1 a4 c4 (limbs (od (Z*T))):=by rw [hW1];exact hN4.below (below_alloc _ _)
 rw [←hW1]
 have hne:w4.heap.size≠w.heap.size:=by
  have g1:=zR0.lt
  have g2:=hb1.size
  have g3:=hb2.size
  have g4:=hb3.size
  have g5:=hb4.size
  have g6:=(zR0.below hb1).lt
  have g7:=((((zR0.below hb1).below hb2).below hb3).below hb4).lt
  omega
 obtain ⟨⟨j0,j1,g0,g1,js⟩,j2,g2⟩:=id z7
 obtain ⟨⟨k0,k1,f0,f1,hs2⟩,k2,f2⟩:=id z6
 clear hW1 hN1 hN2 hN3 hN4 hb1 hb2 hb3 hb4 yb0 zR0 RD PW TI NO
 have hk2:0≤k:=h2
 go_wp2_with fail
 refine bodyPost_ret (by simp [results,Tryz.results89,go_sem,k0,k1,k2];try rfl) rfl ?_
 exact ⟨od (Z*T),_,⟨a4,c4,rfl,hN5.set3 z6 (by intro x h;cases h) _ _ _,((yb5.setCell (by first|omega|(simp;done)|(simp;omega)) _).setCell (by first|omega|(simp;done)|(simp;omega)) _).setCell (by first|omega|(simp;done)|(simp;omega)) _⟩,hok.out,HL.out,by omega,HX.out⟩
theorem value_part (neg:Bool) (L:List UInt8) (k:Int) (w:World) (hL:AllDg L) (hl:1≤L.length∧L.length≤1000) (hZ:10^(L.length-1)≤dvl L) (h1:(L.length:Int)+k≤400) (h2: -400≤(L.length:Int)+k) (h3:k<0) (hT:Tab 1 w):
 Calls Tryz.prog 89 #[.bool neg,.string (bsOf L),.int .i64 k] w (RetRV w neg (rdNum (dvl L) L.length k) (rdDen L.length k)):=by
 have hZ0:0<dvl L:=Nat.lt_of_lt_of_le (Nat.pow_pos (by omega)) hZ
 have hZb:=dvl_lt L hL
 obtain ⟨Z,hZe⟩: ∃Z,Z=dvl L:=⟨_,rfl⟩
 obtain ⟨n,hn⟩: ∃n,n=L.length:=⟨_,rfl⟩
 have RD:=hid (fun w=>natRead_any L w hL (by omega))
 have hsz:=bs_size L
 rw [←hZe] at hZ hZ0 hZb RD ⊢
 rw [←hn] at hZ hZb hsz h1 hl ⊢
 try rw [←hn] at h2
 obtain ⟨j,hj⟩: ∃j:Nat,j=k.toNat:=⟨_,rfl⟩
 have hmx:max k 0=(j:Int):=by omega
 have hw:IntKind.i64.wrap ((n:Int)+k)=(n:Int)+k:=IntWalk.i64_in _ (by omega)
 have PW:=hid (fun w=>pow10_any j (by omega) w)
 obtain ⟨B,hB⟩: ∃B:Nat,B=5601:=⟨_,rfl⟩
 have hXb:Z*10^j<2^B:=by
  have g1:Z*10^j<10^n*10^j:=Nat.mul_lt_mul_of_pos_right hZb (Nat.pow_pos (by omega))
  rw [←Nat.pow_add] at g1
  exact Nat.lt_of_lt_of_le (Nat.lt_trans g1 (ten_lt _)) (Nat.pow_le_pow_right (by omega) (by omega))
 have hX0:0<Z*10^j:=Nat.mul_pos hZ0 (Nat.pow_pos (by omega))
 have lZ:(limbs Z).length≤200:=limbs_short B 200 (by omega) Z (Nat.lt_of_le_of_lt (Nat.le_mul_of_pos_right _ (Nat.pow_pos (by omega))) hXb)
 have lT:(limbs (10^j)).length≤200:=limbs_short B 200 (by omega) _ (Nat.lt_of_le_of_lt (Nat.le_mul_of_pos_left _ hZ0) hXb)
 have lX:(limbs (Z*10^j)).length≤200:=limbs_short B 200 (by omega) _ hXb
 have TI:=hid (fun a b c d w h0 h1=>times_any a b c d Z (10^j) w h0 h1 (by omega) (by omega))
 have NO:=hid (fun a c w h t=>normX_any neg a c (Z*10^j) w hX0 h (by omega) t)
 have hM2:od (Z*10^j)<2^B:=Nat.lt_of_le_of_lt (od_le _) hXb
 have lM:(limbs (od (Z*10^j))).length≤200:=limbs_short B 200 (by omega) _ hM2
 have tX:=tw_le _ B hX0 hXb
 have zR0:QL 67 (w.alloc (.cells #[.bool false,.slice none 0 0,.int .i64 0] 67)) w.heap.size false (.slice none 0 0) 0:=QL.made rfl
 have yb0:=below_alloc w (.cells #[.bool false,.slice none 0 0,.int .i64 0] 67)
 have hj0:j=0:=by omega
 obtain ⟨i,hi⟩: ∃i:Nat,i=(-k).toNat:=⟨_,rfl⟩
 have hP0:0<10^i:=Nat.pow_pos (by omega)
 have hPb:10^i<2^B:=Nat.lt_of_lt_of_le (ten_lt _) (Nat.pow_le_pow_right (by omega) (by omega))
 have lP:(limbs (10^i)).length≤200:=limbs_short B 200 (by omega) _ hPb
 have hN2:od (10^i)<2^B:=Nat.lt_of_le_of_lt (od_le _) hPb
 have tP:=tw_le _ B hP0 hPb
 have oP:=(od_tw _ hP0).2
 have hok0:=rd_ratio Z n k hZ0 h3 (by omega) (od Z) (od (10^(-k).toNat)) rfl rfl _ rfl
 have e1:Z*10^j=Z:=by rw [hj0,Nat.pow_zero,Nat.mul_one]
 obtain ⟨qb,qk⟩:=qst_bdB (od (Z*10^j)) (od (10^i)) B hM2 hN2 (by omega)
 have lq:(limbs (qst (od (Z*10^j)) (od (10^i)) (rK (od (Z*10^j)) (od (10^i))))).length≤10000:=limbs_short _ 10000 (by omega) _ qb
 have hok:=hid (show RdOk (rdNum Z n k) (rdDen n k) (qst (od (Z*10^j)) (od (10^i)) (rK (od (Z*10^j)) (od (10^i)))) ((tw (Z*10^j):Int)-(tw (10^i):Int)-(rK (od (Z*10^j)) (od (10^i)):Int)-2) from by rw [e1,hi];exact hok0)
 have PW2:=hid (show ∀w,Calls Tryz.prog 159 #[.int .u64 10,.int .i64 (-k)] w (RetNc w (10^i)) from fun w=>by
  rw [show -k=(i:Int) by omega];exact pow10_any i (by omega) w)
 have NO2:=hid (fun a c w h t=>normX_any false a c (10^i) w hP0 h (by omega) t)
 have RA:=hid (show ∀a c b d w,Ns .u32 w a c (limbs (od (Z*10^j)))→Ns .u32 w b d (limbs (od (10^i)))→Calls Tryz.prog 103 #[.agg #[.bool neg,.slice a (limbs (od (Z*10^j))).length c,.int .i64 (tw (Z*10^j):Int)],.agg #[.bool false,.slice b (limbs (od (10^i))).length d,.int .i64 (tw (10^i):Int)]] w (RetDy w neg (qst (od (Z*10^j)) (od (10^i)) (rK (od (Z*10^j)) (od (10^i)))) ((tw (Z*10^j):Int)-(tw (10^i):Int)-(rK (od (Z*10^j)) (od (10^i)):Int)-2)) from fun a c b d w g1 g2=>by
  have h:=ratio_big neg false a b c d (od (Z*10^j)) (od (10^i)) (tw (Z*10^j):Int) (tw (10^i):Int) w g1 g2 B (by omega) hM2 hN2 (by omega) (by omega) (by omega)
  rw [show (neg !=false)=neg by cases neg<;>rfl] at h
  exact h)
 have h0:k<0:=h3
 have hwk:IntKind.i64.wrap (-k)= -k:=IntWalk.i64_in _ (by omega)
 have HT:=hid hT
 have HL:=hid lq
 have HX:=hid (show -100000≤(tw (Z*10^j):Int)-(tw (10^i):Int)-(rK (od (Z*10^j)) (od (10^i)):Int)-2∧(tw (Z*10^j):Int)-(tw (10^i):Int)-(rK (od (Z*10^j)) (od (10^i)):Int)-2≤100000 by omega)
 obtain ⟨T,hTe⟩: ∃T,T=10^j:=⟨_,rfl⟩
 rw [←hTe] at PW TI NO RA hok HL HX
 obtain ⟨V,hVe⟩: ∃V,V=10^i:=⟨_,rfl⟩
 rw [←hVe] at PW2 NO2 RA hok HL HX
 obtain ⟨S,hS⟩: ∃S,S=qst (od (Z*T)) (od V) (rK (od (Z*T)) (od V)):=⟨_,rfl⟩
 obtain ⟨y,hy⟩: ∃y,y=(tw (Z*T):Int)-(tw V:Int)-(rK (od (Z*T)) (od V):Int)-2:=⟨_,rfl⟩
 rw [←hS,←hy] at RA hok
 rw [←hS] at HL
 rw [←hy] at HX
 obtain ⟨Q,hQ⟩: ∃Q,Q=bsOf L:=⟨_,rfl⟩
 rw [←hQ] at hsz RD ⊢
 clear hXb hX0 lZ lT lX hM2 lM tX hZ hZb hTe hQ hZe hn hL hT hB hj hP0 hPb lP hN2 tP oP hok0 e1 qb qk lq hVe hS hy hi hj0
 go_enter Tryz.func89,Tryz.ntmps89
 go_upto_region 6 with (first|(go_at_call 158;(with_reducible refine (RD.out _).mono ?_);rintro en w1 ⟨a1,c1,rfl,hN1,hb1⟩)|(go_at_call 159;(with_reducible refine (PW.out _).mono ?_);rintro en w2 ⟨a2,c2,rfl,hN2,hb2⟩)|(go_at_call 157;(with_reducible refine (TI.out _ _ _ _ _ (hN1.below hb2) hN2).mono ?_);rintro en w3 ⟨a3,rfl,hN3,hb3⟩;have yb3:=below_trans (below_trans (below_trans yb0 hb1) hb2) hb3)|(go_at_call 156;(with_reducible refine (NO.out _ _ _ hN3 (HT.out.below yb3)).mono ?_);rintro en w4 ⟨a4,c4,rfl,hN4,hb4⟩))
 obtain ⟨W1,hW1⟩: ∃W,W=w4.alloc (.cells #[.bool neg,.slice a4 (limbs (od (Z*T))).length c4,.int .i64 (tw (Z*T):Int)] 67):=⟨_,rfl⟩
 have z7:QL 67 W1 w4.heap.size neg (.slice a4 (limbs (od (Z*T))).length c4) (tw (Z*T):Int):=by rw [hW1];exact QL.made rfl
 have z6:QL 67 W1 w.heap.size false (.slice none 0 0) 0:=by rw [hW1];exact (((((zR0.below hb1).below hb2).below hb3).below hb4).alloc _)
 have yb5:Below w.heap.size w W1:=by rw [hW1];exact below_trans (below_trans yb3 hb4) (below_alloc _ _)
 have hN5:Ns .u32 W1 a4 c4 (limbs (od (Z*T))):=by rw [hW1];exact hN4.below (below_alloc _ _)
 rw [←hW1]
 have hne:w4.heap.size≠w.heap.size:=by
  have g1:=zR0.lt
  have g2:=hb1.size
  have g3:=hb2.size
  have g4:=hb3.size
  have g5:=hb4.size
  have g6:=(zR0.below hb1).lt
  have g7:=((((zR0.below hb1).below hb2).below hb3).below hb4).lt
  omega
 obtain ⟨⟨j0,j1,g0,g1,js⟩,j2,g2⟩:=id z7
 obtain ⟨⟨k0,k1,f0,f1,hs2⟩,k2,f2⟩:=id z6
 clear hW1 hN1 hN2 hN3 hN4 hb1 hb2 hb3 hb4 yb0 zR0 RD PW TI NO
 clear j0 j1 j2 g0 g1 js g2 k0 k1 f0 f1 hs2 k2 f2
 go_upto_region 8 with fail
 refine wp_region_grow 6 [37,38,39,40,41,42] [Fact.is (.agg #[.bool neg,.slice a4 (limbs (od (Z*T))).length c4,.int .i64 (tw (Z*T):Int)]),Fact.is (.int .i64 k),Fact.is (.int .i64 (-k)),Fact.li V,Fact.dyx false (od V) (tw V:Int),Fact.dyx neg S y] (by kernel_rfl) (by kernel_rfl) ⟨?o0,?o1,?o2,?o3,?o4,?o5,trivial⟩ ?after
 case o0=>(refine oQ rfl ?_;intro ρ w1 R hcon hfn hρ hb hp hR;have e7:ρ (.tmp 7)=.pointer (some ⟨w4.heap.size,0,none⟩):=hρ.tmp 7 rfl;obtain ⟨⟨j0,j1,-,-,-⟩,j2,-⟩:=z7.below hb;clear hρ hp;unfold OpRun;go_simp;exact hR _ _ (Below.refl _ _) rfl)
 case o1=>(refine oQ rfl ?_;intro ρ w1 R hcon hfn hρ hb hp hR;have e2:ρ (.tmp 2)=.int .i64 k:=hρ.tmp 2 rfl;clear hρ hp;unfold OpRun;go_simp;exact hR _ _ (Below.refl _ _) rfl)
 case o2=>(refine oQ rfl ?_;intro ρ w1 R hcon hfn hρ hb hp hR;have e38:ρ (.tmp 38)=_:=hp 1 38 rfl rfl;clear hρ hp;unfold OpRun;go_simp;exact hR _ _ (Below.refl _ _) rfl)
 case o3=>(refine oQ rfl ?_;intro ρ w1 R hcon hfn hρ hb hp hR;have e39:ρ (.tmp 39)=_:=hp 2 39 rfl rfl;clear hρ hp;unfold OpRun;go_simp;(refine (PW2.out _).mono ?_;rintro e wn ⟨a9,c9,rfl,hn9,hbn⟩;exact ⟨_,rfl,hR _ _ hbn ⟨a9,c9,rfl,hn9⟩⟩))
 case o4=>(refine oQ rfl ?_;intro ρ w1 R hcon hfn hρ hb hp hR;have f40:=hp 3 40 rfl rfl;obtain ⟨a9,c9,e40,hn9⟩:=f40;clear hρ hp;unfold OpRun;go_simp;(skip;refine (NO2.out _ _ _ hn9 (HT.out.below (below_trans yb5 hb))).mono ?_;rintro e wn ⟨a9,c9,rfl,hv9,hbn⟩;exact ⟨_,rfl,hR _ _ hbn ⟨a9,c9,rfl,hv9⟩⟩))
 case o5=>(refine oQ rfl ?_;intro ρ w1 R hcon hfn hρ hb hp hR;have e37:ρ (.tmp 37)=_:=hp 0 37 rfl rfl;have f41:=hp 4 41 rfl rfl;obtain ⟨a8,c8,e41,hn8⟩:=f41;clear hρ hp;unfold OpRun;go_simp;(skip;refine (RA.out _ _ _ _ _ (hN5.below hb) hn8).mono ?_;rintro e wn ⟨a9,c9,rfl,hv9,hbn⟩;exact ⟨_,rfl,hR _ _ hbn ⟨a9,c9,rfl,hv9⟩⟩))
 case after=>
  intro u wn hb hf
  have f42:=hf 5 42 (by omega) rfl
  clear hf
  simp only [putAll,Act.put,List.setIfInBounds_toArray,List.set_cons_zero,List.set_cons_succ,List.drop_succ_cons,List.drop_zero,List.drop_nil]
  obtain ⟨a3,c3,e20,hN3⟩:=f42
  rw [e20]
  have z8:=z6.below hb
  have yb3:=below_trans yb5 hb
  obtain ⟨⟨k0,k1,f0,f1,hs2⟩,k2,f2⟩:=id z8
  clear e20
  go_wp2_with fail
  refine bodyPost_ret (by simp [results,Tryz.results89,go_sem,k0,k1,k2];try rfl) rfl ?_
  exact ⟨S,y,⟨a3,c3,rfl,hN3.set3 z8 (by intro x h;cases h) _ _ _,((yb3.setCell (by first|omega|(simp;done)|(simp;omega)) _).setCell (by first|omega|(simp;done)|(simp;omega)) _).setCell (by first|omega|(simp;done)|(simp;omega)) _⟩,hok.out,HL.out,HX.out.1,HX.out.2⟩
end Go.Proofs.YtfphmlmgjhebjaaGreatDoor
