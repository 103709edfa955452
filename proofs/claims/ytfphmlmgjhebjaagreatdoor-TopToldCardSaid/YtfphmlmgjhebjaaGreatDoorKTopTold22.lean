/- TopTold: what the proof leans on, part 22 (Wa13 Hr6 Re10 Re14 Hr9 Tt1). -/
import Derived.Test.YtfphmlmgjhebjaaGreatDoorKTopTold15
import Derived.Test.YtfphmlmgjhebjaaGreatDoorKTopTold17
import Derived.Test.YtfphmlmgjhebjaaGreatDoorKTopTold18
import Derived.Test.YtfphmlmgjhebjaaGreatDoorKTopTold19
import Derived.Test.YtfphmlmgjhebjaaGreatDoorKTopTold21
set_option linter.unusedVariables false
set_option linter.unusedSimpArgs false
namespace Go.Ulp
open Go.RowKit
theorem sgW_len (x:Int) (pl bl:Bool):(sgW x pl bl).length≤1:=by
 unfold sgW
 split
 ·simp
 split
 ·simp
 split<;>simp
theorem absOf_bd (x:Int):0≤absOf x∧absOf x<18446744073709551616:=by unfold absOf;omega
theorem hasVal_abs (x:Int):hasVal (absOf x)=hasVal x:=by
 unfold hasVal absOf
 rw [Int.emod_emod_of_dvd _ (Int.dvd_refl _)]
theorem hv_cls (x:Int):hasVal x=(decide (classOf x≠5)&&decide (classOf x≠4)):=by
 unfold hasVal classOf expOf fracOf
 split
 ·rename_i h
  split
  ·rw [show decide ((5:Int)≠5)=false from rfl,Bool.false_and];exact decide_eq_false (by omega)
  ·rw [show decide ((4:Int)≠4)=false from rfl,Bool.and_false];exact decide_eq_false (by omega)
 ·rename_i h
  have e:decide (x%9223372036854775808<9218868437227405312)=true:=decide_eq_true (by omega)
  rw [e]
  split
  ·rfl
  split<;>rfl
theorem dsh_lo (n:Bool) (L:List UInt8):L.length≤(dsh n L).length:=by unfold dsh;split<;>simp
theorem hfT_two (x:Int) (n:Nat) (mode:Int):2≤(hfT x n mode).length:=by
 unfold hfT hxT
 exact Nat.le_trans (by simp) (dsh_lo _ _)
theorem wvS_two (al:Bool) (pr x pd:Int):2≤(wvS 97 al pr x pd).length:=by
 unfold wvS
 rw [if_neg (by decide),if_neg (by decide),if_neg (by decide)]
 split
 ·unfold hexTx
  split
  ·simp
  split
  ·exact Nat.le_trans (by simp) (dsh_lo _ _)
  split
  ·exact Nat.le_trans (by simp) (dsh_lo _ _)
  ·exact hfT_two _ _ _
 ·unfold hexFx hxZ
  split
  ·exact Nat.le_trans (by simp) (dsh_lo _ _)
  ·exact hfT_two _ _ _
theorem alS_two (c:UInt8) (S:List UInt8) (h:2≤S.length):2≤(alS c S).length:=by
 unfold alS
 have k:=congrArg List.length (ahead_from c S)
 rw [List.length_append] at k
 split
 ·exact h
 ·rw [List.length_append,List.length_cons];omega
theorem wvT_two (al:Bool) (pr x pd:Int):2≤(wvT 97 al pr x pd).length:=by
 unfold wvT
 split
 ·exact alS_two _ _ (wvS_two al pr x pd)
 ·exact wvS_two al pr x pd
end Go.Ulp
namespace Go.Proofs.YtfphmlmgjhebjaaGreatDoor
open Go.RowKit Go.Ulp
set_option maxHeartbeats 4000000
theorem formatW_ok (verb wd pr x:Int) (mi pl bl ze al:Bool) (hok:wfO verb wd pr) (h0:0≤x) (h1:x<18446744073709551616) (pd:Int) (hd:(fv (absOf x)).1≠0→IsDec (dA (fv (absOf x))) (dB (fv (absOf x))) pd) (hpb: -1200≤pd∧pd≤1200) (w:World) (hT:Tab 1 w) (hT10:Tab10 w):
 Calls Tryz.prog 23 #[.agg #[.int .i64 verb,.bool mi,.bool pl,.bool bl,.bool ze,.bool al,.int .i64 wd,.int .i64 pr],.int .u64 x] w fun e w'=>e=.returned (.tuple #[.string (bsOf (wfT verb wd pr mi pl bl ze al x pd)),.int .i64 0])∧Below w.heap.size w w':=by
 have hok0:=hok
 obtain ⟨hvb,hwd,hp,h30⟩:=hok
 have lH:=sgW_len x pl bl
 obtain ⟨a0,a1⟩:=absOf_bd x
 have lB:=wvT_len verb al pr (absOf x) pd a0 a1 hp hd hpb
 unfold wfT
 refine formatW_all verb wd pr x hok0 h0 h1 mi pl bl ze al _ _ lH ?_ ?_ rfl w (fun h=>by unfold wfB;rw [if_pos h]) (fun h=>by unfold wfB;rw [if_neg (by omega),if_pos h]) (fun hn hi W hb=>?_)
 ·unfold wfB
  split
  ·simp
  split
  ·simp
  ·omega
 ·intro h97
  subst h97
  unfold wfB
  split
  ·simp
  split
  ·simp
  ·exact wvT_two al pr (absOf x) pd
 ·have hv:hasVal (absOf x)=true:=by rw [hasVal_abs,hv_cls,decide_eq_true hn,decide_eq_true hi];rfl
  have e:wfB verb al pr x pd=wvT verb al pr (absOf x) pd:=by unfold wfB;rw [if_neg hn,if_neg hi]
  rw [e]
  exact valueW_any verb (absOf x) hvb a0 a1 hv wd pr mi pl bl ze al hp h30 pd hd hpb W (hT.below hb) (hT10.below hb)
end Go.Proofs.YtfphmlmgjhebjaaGreatDoor
namespace Go.Ulp
open Go.RowKit
theorem limbs_hex (k:Nat) (hk:k≤1000):(limbs (16^k)).length≤3002:=by
 refine Nat.le_trans (limbs_len_mono (n:=10^2000) ?_) (limbs_ten 2000 (by omega))
 obtain ⟨T,hT⟩: ∃T:Nat,T=2000:=⟨_,rfl⟩
 rw [←hT]
 have h1:16^k≤16^(T/2):=Nat.pow_le_pow_right (by omega) (by omega)
 have h2:16^(T/2)≤100^(T/2):=Nat.pow_le_pow_left (by omega) _
 have h3:100^(T/2)=10^T:=by
  rw [show (100:Nat)=10^2 from rfl,←Nat.pow_mul];congr 1;omega
 omega
end Go.Ulp
namespace Go.Proofs.YtfphmlmgjhebjaaGreatDoor
open Go.RowKit Go.Ulp
set_option maxHeartbeats 2000000
set_option maxRecDepth 100000
theorem mantissa_any (L:List UInt8) (w:World) (hL:AllHx L) (hl:L.length≤1000):
 Calls Tryz.prog 93 #[.string (bsOf L)] w (RetNc w (hvl L)):=by
 obtain ⟨Z,hZ⟩: ∃Z,Z=hvl L:=⟨_,rfl⟩
 rw [←hZ]
 go_enter Tryz.func93,Tryz.ntmps93
 go_wp2_with fail
 go_loopw [0,3] (fun s0 s3 wr=> ∃(Q:List UInt8) (x:Nat) (a:Option Addr) (c:Nat),s0=.string (bsOf Q)∧s3=.slice a (limbs x).length c∧Ns .u32 wr a c (limbs x)∧AllHx Q∧hvA x Q=Z∧Q.length≤1000∧x<16^(1000-Q.length)∧Below w.heap.size w wr) (fun s0 _ _=>strSz s0)
 case atStart=>exact ⟨L,0,none,0,rfl,rfl,Ns.nil,hL,hZ.symm,hl,Nat.pow_pos (by omega),Below.refl _ _⟩
 case round=>
  obtain ⟨Q,x,a,c,rfl,rfl,hN,hQ,hx,hq,hxl,hb⟩:=hrel
  by_cases hQ0:Q= []
  ·subst hQ0
   have e:x=Z:=hx
   subst e
   have HN:=hid hN
   clear hN hx
   have hsz:(bsOf []).size=0:=rfl
   go_wp2_with fail
   go_ret
   exact ⟨a,c,rfl,HN.out,hb⟩
  ·have hq0:0<Q.length:=List.length_pos_iff.2 hQ0
   obtain ⟨k,hk⟩: ∃k:Nat,k=min Q.length 8:=⟨_,rfl⟩
   have hk1:0<k∧k≤8∧k≤Q.length:=by omega
   have hmn:min (Q.length:Int) 8=(k:Int):=by omega
   have hsz:=bs_size Q
   have S1:=slice_to (P:=Tryz.prog) Tryz.underlying9 Q (k:Int) (by omega) (by omega)
   have S2:=slice_from (P:=Tryz.prog) Tryz.underlying9 Q (k:Int) (by omega) (by omega)
   rw [Int.toNat_natCast] at S1 S2
   have htl:(Q.take k).length=k:=by rw [List.length_take];omega
   have hdl:(Q.drop k).length=Q.length-k:=List.length_drop
   obtain ⟨y,hy⟩: ∃y,y=hvl (Q.take k):=⟨_,rfl⟩
   have hyb:y<16^8:=by
    have h1:=hvl_lt (Q.take k) (hQ.take k)
    rw [htl,←hy] at h1
    exact Nat.lt_of_lt_of_le h1 (Nat.pow_le_pow_right (by omega) (by omega))
   have hyb2:y<4294967296:=by
    have:(16:Nat)^8=4294967296:=by decide
    omega
   have PU:=hid (show ∀w,Calls Tryz.prog 171 #[.string (bsOf (Q.take k)),.int .i64 16,.int .i64 64] w fun e w'=>e=.returned (.tuple #[.int .u64 (y:Int),.nilIface])∧Below w.heap.size w w' from fun w=>by
    rw [hy]
    exact pu16_any (Q.take k) w (hQ.take k) (by omega) (by omega))
   obtain ⟨E,hE⟩: ∃E:Nat,E=1000:=⟨_,rfl⟩
   have hx1:16^(1000-Q.length)≤16^E:=Nat.pow_le_pow_right (by omega) (by omega)
   have lx:=limbs_hex E (by omega)
   have lx1:(limbs x).length≤3002:=Nat.le_trans (limbs_len_mono (by omega)) lx
   have e4:16^k=2^(4*k):=by rw [show (16:Nat)=2^4 from rfl,←Nat.pow_mul]
   have LE:=hid (fun a c w h0=>leftN_any a c x (4*k) w h0 (by omega) (by omega))
   rw [←e4] at LE
   have hxn:x*16^k+y<16^(1000-(Q.length-k)):=by
    have h1:y<16^k:=by rw [hy];have:=hvl_lt (Q.take k) (hQ.take k);rw [htl] at this;exact this
    have h2:(x+1)*16^k≤16^(1000-Q.length)*16^k:=Nat.mul_le_mul_right _ hxl
    rw [←Nat.pow_add,show 1000-Q.length+k=1000-(Q.length-k) by omega,Nat.add_mul,Nat.one_mul] at h2
    omega
   have hx2:16^(1000-(Q.length-k))≤16^E:=Nat.pow_le_pow_right (by omega) (by omega)
   have lt1:(limbs (x*16^k)).length≤3002:=Nat.le_trans (limbs_len_mono (by omega)) lx
   have ly:(limbs y).length≤3002:=Nat.le_trans (limbs_len_mono (by have:16^8≤16^E:=Nat.pow_le_pow_right (by omega) (by omega);omega)) lx
   have OF:=hid (fun w=>natOf_any y (by omega) w)
   have PL:=hid (fun a b c d w h0 h1=>plus_any a b c d (x*16^k) y w h0 h1 (by omega) (by omega))
   have hnx:hvA (x*16^k+y) (Q.drop k)=Z:=by
    have h9:=hvA_split x k Q
    rw [htl,←hy] at h9
    rw [h9,hx]
   have hQd:=hQ.drop k
   have HN:=hid hN
   have HX:=hid hnx
   have HM:=hid (show (Q.drop k).length<Q.length by omega)
   have HD:=hid hxn
   rw [←hdl] at HD
   have hdl2:(Q.drop k).length≤1000:=by omega
   have w4:IntKind.i64.wrap (4*(k:Int))=4*(k:Int):=IntWalk.i64_in _ (by omega)
   have k4:(((4*k:Nat):Int))=4*(k:Int):=by omega
   rw [k4] at LE
   obtain ⟨n,hn⟩: ∃n,n=Q.length:=⟨_,rfl⟩
   rw [←hn] at hmn hsz hq0 hk1
   obtain ⟨X,hX⟩: ∃X,X=x*16^k:=⟨_,rfl⟩
   rw [←hX] at LE PL HX HD
   clear hE hN hnx hxn hx1 hx2 lx lx1 lt1 ly hX hn htl hdl hy hx hxl hk e4 k4 hyb
   go_wp2_with (first
    |(go_at_call 171;(with_reducible refine (PU.out _).mono ?_);rintro en w1 ⟨rfl,hb1⟩)
    |(go_at_call 172;(with_reducible refine (LE.out _ _ _ (HN.out.below hb1)).mono ?_);rintro en w3 ⟨a3,rfl,hN3,hb3⟩)
    |(go_at_call 95;(with_reducible refine (OF.out _).mono ?_);rintro en w4 ⟨a4,rfl,hN4,hb4⟩)
    |(go_at_call 163;(with_reducible refine (PL.out _ _ _ _ _ (hN3.below hb4) hN4).mono ?_);rintro en w5 ⟨a5,rfl,hN5,hb5⟩))
   go_roundw
   case rel=>exact ⟨Q.drop k,X+y,a5,_,rfl,rfl,hN5,hQd,HX.out,hdl2,HD.out,below_trans (below_trans (below_trans (below_trans hb hb1) hb3) hb4) hb5⟩
   case measure=>rw [strSz_bs,strSz_bs];exact HM.out
end Go.Proofs.YtfphmlmgjhebjaaGreatDoor
namespace Go.Ulp
open Go.RowKit
def RetNm (w:World) (x:Int) (c:Bool) (k:Int) (e:Ending) (w':World):Prop:=e=.returned (.tuple #[.int .u64 x,.bool c,.int .i64 k])∧Below w.heap.size w w'
theorem RdOk.pos {A B M:Nat} {e:Int} (h:RdOk A B M e):0<M:=h.1
theorem drop_head (p:UInt8→Bool): ∀(A:List UInt8) (b:UInt8) (r:List UInt8),A.dropWhile p=b::r→p b=false
 | [],b,r,h=>by cases h
 |a::t,b,r,h=>by
  rw [List.dropWhile_cons] at h
  split at h
  ·exact drop_head p t b r h
  ·rename_i h1
   injection h with h2 h3
   rw [←h2];exact eq_false_of_ne_true h1
theorem drop_len (p:UInt8→Bool): ∀A:List UInt8,(A.dropWhile p).length≤A.length
 | []=>by simp
 |a::t=>by
  rw [List.dropWhile_cons]
  split
  ·have:=drop_len p t;rw [List.length_cons];omega
  ·exact Nat.le_refl _
theorem drop_mem (p:UInt8→Bool): ∀(A:List UInt8) (x:UInt8),x∈A.dropWhile p→x∈A
 | [],x,h=>h
 |a::t,x,h=>by
  rw [List.dropWhile_cons] at h
  split at h
  ·exact List.mem_cons_of_mem _ (drop_mem p t x h)
  ·exact h
theorem rAll_dg (L:List UInt8):AllDg (rAll L):=fun b hb=>by
 unfold rAll at hb
 rcases List.mem_append.1 hb with h|h
 ·exact all_tk _ b h
 ·unfold rPart at h
  split at h
  ·exact all_tk _ b h
  ·cases h
theorem rPart_len (R:List UInt8):(rPart R).length≤R.length:=by
 unfold rPart;split
 ·have:=tk_len (R.drop 1);rw [List.length_drop] at this;omega
 ·simp
theorem rAll_len (L:List UInt8):(rAll L).length≤L.length:=by
 unfold rAll
 have h1:=rPart_len (dpD (rdT L))
 have h2:=dp_len (rdT L)
 have h3:(rdT L).length≤L.length:=trimPrefix_len L [45]
 rw [List.length_append];omega
theorem rD_dg (L:List UInt8):AllDg (rD L):=fun b hb=>rAll_dg L b (drop_mem _ _ b hb)
theorem rD_len (L:List UInt8):(rD L).length≤L.length:=Nat.le_trans (drop_len _ _) (rAll_len L)
theorem rD_ge (L:List UInt8) (h:rD L≠ []):1≤(rD L).length∧10^((rD L).length-1)≤dvl (rD L):=by
 cases hD:rD L with
 |nil=>exact absurd hD h
 |cons b r=>
  have h1:=drop_head _ _ b r hD
  have h2:=rD_dg L
  rw [hD] at h2
  rw [List.length_cons]
  exact ⟨by omega,dvl_ge b r h2 (fun h9=>by rw [h9] at h1;exact absurd h1 (by decide))⟩
theorem rdE_zero {L:List UInt8} (h:rdE L=0):L.length≤1000:=by
 unfold rdE at h
 split at h
 ·omega
 ·omega
theorem rdK_bd (L:List UInt8) (hl:rdE L=0): -2000000≤rdK L∧rdK L≤2000000:=by
 have h1:=pwV_bd (rPw L)
 have h2:=rPart_len (dpD (rdT L))
 have h3:=dp_len (rdT L)
 have h4:(rdT L).length≤L.length:=trimPrefix_len L [45]
 have h5:=rdE_zero hl
 unfold rdK;split<;>omega
end Go.Ulp
namespace Go.Proofs.YtfphmlmgjhebjaaGreatDoor
open Go.RowKit Go.Ulp
set_option maxHeartbeats 2000000
set_option maxRecDepth 100000
theorem valueP_any (neg:Bool) (L:List UInt8) (k:Int) (w:World) (hL:AllDg L) (hl:1≤L.length∧L.length≤1000) (hZ:10^(L.length-1)≤dvl L) (hk: -2000000≤k∧k≤2000000) (hT:Tab 1 w):
 Calls Tryz.prog 89 #[.bool neg,.string (bsOf L),.int .i64 k] w (RetRV w neg (rdNum (dvl L) L.length k) (rdDen L.length k)):=by
 by_cases h1:400<(L.length:Int)+k
 ·exact value_high neg L k w hL hl hZ hk h1
 by_cases h2:(L.length:Int)+k< -400
 ·exact value_low neg L k w hL hl hZ hk h2
 by_cases h3:k<0
 ·exact value_part neg L k w hL hl hZ (by omega) (by omega) h3 hT
 ·exact value_whole neg L k w hL hl hZ (by omega) (by omega) hT
theorem number_zero (L:List UInt8) (mode:Int) (w:World) (hm:(0≤mode∧mode≤4)) (hl:L.length≤9223372036854775807) (n1:L≠ [105,110,102]) (n2:L≠ [45,105,110,102]) (n3:L≠ [110,97,110]) (h:rdE L=0) (h0:rdD L= []):
 Calls Tryz.prog 34 #[.string (bsOf L),.int .i64 mode] w (RetNm w (sgb (rdN L)) false 0):=by
 have KN:=hid (fun w=>known_any mode w)
 rw [show knownB mode=true by unfold knownB;exact decide_eq_true hm] at KN
 have q1:((bsOf L).toList== [105,110,102])=false:=by rw [bs_toList];exact beq_eq_false_iff_ne.2 n1
 have q2:((bsOf L).toList== [45,105,110,102])=false:=by rw [bs_toList];exact beq_eq_false_iff_ne.2 n2
 have q3:((bsOf L).toList== [110,97,110])=false:=by rw [bs_toList];exact beq_eq_false_iff_ne.2 n3
 have PZ:=hid (fun w=>parseP_any L w hl)
 rw [h] at PZ
 obtain ⟨Q,hQ⟩: ∃Q,Q=bsOf L:=⟨_,rfl⟩
 rw [←hQ] at q1 q2 q3 PZ ⊢
 have hde:(bsOf (rdD L)).toList.isEmpty=true:=by rw [bs_toList,h0];rfl
 generalize rdN L=ne at *
 generalize rdD L=dd at *
 generalize rdK L=kk at *
 clear hQ n1 n2 n3 h0 h
 cases ne
 ·go_enter Tryz.func34,Tryz.ntmps34
  go_wp2_with (first|(go_at_call 78;(with_reducible refine (KN.out _).mono ?_);rintro en w1 ⟨rfl,rfl⟩)|(go_at_call 88;(with_reducible refine (PZ.out _).mono ?_);rintro en w2 ⟨rfl,hb2⟩))
  go_ret3
  exact ⟨rfl,hb2⟩
 ·go_enter Tryz.func34,Tryz.ntmps34
  go_wp2_with (first|(go_at_call 78;(with_reducible refine (KN.out _).mono ?_);rintro en w1 ⟨rfl,rfl⟩)|(go_at_call 88;(with_reducible refine (PZ.out _).mono ?_);rintro en w2 ⟨rfl,hb2⟩))
  go_ret3
  exact ⟨rfl,hb2⟩
theorem number_val (L:List UInt8) (mode:Int) (w:World) (hm:(0≤mode∧mode≤4)) (hl:L.length≤9223372036854775807) (n1:L≠ [105,110,102]) (n2:L≠ [45,105,110,102]) (n3:L≠ [110,97,110]) (h:rdE L=0) (h0:rdD L≠ []) (hT:Tab 1 w):
 Calls Tryz.prog 34 #[.string (bsOf L),.int .i64 mode] w fun e w'=> ∃M x,RdOk (rdNum (dvl (rdD L)) (rdD L).length (rdK L)) (rdDen (rdD L).length (rdK L)) M x∧RetNm w (numX (rdN L) M x mode) (numC (rdN L) M x mode) 0 e w':=by
 have KN:=hid (fun w=>known_any mode w)
 rw [show knownB mode=true by unfold knownB;exact decide_eq_true hm] at KN
 have q1:((bsOf L).toList== [105,110,102])=false:=by rw [bs_toList];exact beq_eq_false_iff_ne.2 n1
 have q2:((bsOf L).toList== [45,105,110,102])=false:=by rw [bs_toList];exact beq_eq_false_iff_ne.2 n2
 have q3:((bsOf L).toList== [110,97,110])=false:=by rw [bs_toList];exact beq_eq_false_iff_ne.2 n3
 have PZ:=hid (fun w=>parseP_any L w hl)
 have hD:rdD L=rD L:=by unfold rdD;rw [if_pos h]
 have hk:=rdK_bd L h
 have hlen:=rD_len L
 have hl1:=rdE_zero h
 rw [hD] at h0
 have hge:=rD_ge L h0
 rw [←hD] at hge hlen h0
 have VA:=hid (fun w t=>valueP_any (rdN L) (rdD L) (rdK L) w (by rw [hD];exact rD_dg L) ⟨hge.1,by omega⟩ hge.2 hk t)
 have hde:(bsOf (rdD L)).toList.isEmpty=false:=by rw [bs_toList];exact List.isEmpty_eq_false_iff.2 h0
 have HT:=hid hT
 rw [h] at PZ
 generalize rdNum (dvl (rdD L)) (rdD L).length (rdK L)=A at *
 generalize rdDen (rdD L).length (rdK L)=B at *
 obtain ⟨Q,hQ⟩: ∃Q,Q=bsOf L:=⟨_,rfl⟩
 rw [←hQ] at q1 q2 q3 PZ ⊢
 generalize rdN L=ne at *
 generalize rdD L=dd at *
 generalize rdK L=kk at *
 have NU:=hid (fun (m:Nat) (a:Option Addr) (c:Nat) (x:Int) w h0 h1 h2 h3=>number_any ne a c m x mode w h0 h1 h2 h3)
 clear hQ n1 n2 n3 h0 h hD hk hlen hl1 hge hT
 go_enter Tryz.func34,Tryz.ntmps34
 go_wp2_with (first
  |(first|(go_at_call 78;(with_reducible refine (KN.out _).mono ?_);rintro en w1 ⟨rfl,rfl⟩)|(go_at_call 88;(with_reducible refine (PZ.out _).mono ?_);rintro en w2 ⟨rfl,hb2⟩))
  |(go_at_call 89;(with_reducible refine (VA.out _ (HT.out.below hb2)).mono ?_);rintro en w3 ⟨M,x,⟨a3,c3,rfl,hN3,hb3⟩,hok,hML,hx0,hx1⟩;have HO:=hid hok;clear hok)
  |(go_at_call 86;(with_reducible refine (NU.out M a3 c3 x _ hN3 hML ⟨hx0,hx1⟩ (fun h9=>absurd h9 (by have:=HO.out.pos;omega))).mono ?_);rintro en w4 ⟨rfl,hb4⟩))
 go_ret3
 exact ⟨M,x,HO.out,rfl,below_trans (below_trans hb2 hb3) hb4⟩
end Go.Proofs.YtfphmlmgjhebjaaGreatDoor
namespace Go.Ulp
open Go.RowKit
def hrM (M:Nat) (k:Int):Nat:=if 2000<(bl M:Int)+k∨(bl M:Int)+k< -2000 then 1 else M
def hrX (M:Nat) (k:Int):Int:=if 2000<(bl M:Int)+k then 2000 else if (bl M:Int)+k< -2000 then -2000 else k
def hrc (k:Int):Int:=min (max k (-9000)) 9000
theorem hr_same (neg:Bool) (M:Nat) (k mode:Int) (m0:0≤mode) (m1:mode≤4) (hM:0<M) (hb:bl M≤4000):numX neg (hrM M k) (hrX M k) mode=numX neg M (hrc k) mode∧numC neg (hrM M k) (hrX M k) mode=numC neg M (hrc k) mode:=by
 have hbp:=(bl_pos M).2 hM
 have hlo:2^(bl M-1)≤M:=by
  rcases Nat.lt_or_ge M (2^(bl M-1)) with h|h
  ·have:=(bl_le M (bl M-1)).2 h;omega
  ·exact h
 have hhi:=lt_bl M
 by_cases h1:2000<(bl M:Int)+k
 ·unfold hrM hrX
  rw [if_pos (.inl h1),if_pos h1]
  refine num_same neg _ 1 1 M 2000 (hrc k) mode m0 m1 (far_high 1 2000 0 (by decide) (by omega)) (far_high M (hrc k) (bl M-1) hlo ?_)
  unfold hrc;omega
 ·by_cases h2:(bl M:Int)+k< -2000
  ·unfold hrM hrX
   rw [if_pos (.inr h2),if_neg h1,if_pos h2]
   refine num_same neg 1 _ 1 M (-2000) (hrc k) mode m0 m1 (far_low 1 (-2000) 1 (by decide) (by decide) (by omega)) (far_low M (hrc k) (bl M) hM hhi ?_)
   unfold hrc;omega
  ·unfold hrM hrX
   rw [if_neg (fun h=>h.elim h1 h2),if_neg h1,if_neg h2,show hrc k=k by unfold hrc;omega]
   exact ⟨rfl,rfl⟩
end Go.Ulp
namespace Go.Proofs.YtfphmlmgjhebjaaGreatDoor
open Go.RowKit Go.Ulp
set_option maxHeartbeats 2000000
set_option maxRecDepth 100000
theorem hexNum_zero (L:List UInt8) (mode:Int) (w:World) (hm:(0≤mode∧mode≤4)) (hl:L.length≤1000) (h:hrO L=true) (h0:hvl (hrD L)=0):
 Calls Tryz.prog 36 #[.string (bsOf L),.int .i64 mode] w (RetNm w (sgb (hrN L)) false 0):=by
 have KN:=hid (fun w=>known_any mode w)
 rw [show knownB mode=true by unfold knownB;exact decide_eq_true hm] at KN
 have hsz:=bs_size L
 have PZ:=hid (fun w=>hparse_ok L w hl h)
 have hD:=hrD_hx L
 have hDl:=hrD_len L
 have MA:=hid (fun w=>mantissa_any (hrD L) w hD (by omega))
 rw [h0] at MA
 have l0:(limbs 0).length=0:=rfl
 generalize bsOf L=Q at *
 generalize hrN L=ne at *
 generalize hrK L=kk at *
 generalize hrD L=dd at *
 clear h hD hDl h0
 cases ne
 ·go_enter Tryz.func36,Tryz.ntmps36
  go_wp2_with (first|(first|(go_at_call 78;(with_reducible refine (KN.out _).mono ?_);rintro en w1 ⟨rfl,rfl⟩)|(go_at_call 92;(with_reducible refine (PZ.out _).mono ?_);rintro en w2 ⟨rfl,hb2⟩))|(go_at_call 93;(with_reducible refine (MA.out _).mono ?_);rintro en w3 ⟨a3,c3,rfl,hN3,hb3⟩))
  go_ret3
  exact ⟨rfl,below_trans hb2 hb3⟩
 ·go_enter Tryz.func36,Tryz.ntmps36
  go_wp2_with (first|(first|(go_at_call 78;(with_reducible refine (KN.out _).mono ?_);rintro en w1 ⟨rfl,rfl⟩)|(go_at_call 92;(with_reducible refine (PZ.out _).mono ?_);rintro en w2 ⟨rfl,hb2⟩))|(go_at_call 93;(with_reducible refine (MA.out _).mono ?_);rintro en w3 ⟨a3,c3,rfl,hN3,hb3⟩))
  go_ret3
  exact ⟨rfl,below_trans hb2 hb3⟩
theorem hexNum_val (L:List UInt8) (mode:Int) (w:World) (hm:(0≤mode∧mode≤4)) (hl:L.length≤1000) (h:hrO L=true) (M:Nat) (hM:hvl (hrD L)=M) (h0:0<M):
 Calls Tryz.prog 36 #[.string (bsOf L),.int .i64 mode] w (RetNm w (numX (hrN L) (hrM M (hrK L)) (hrX M (hrK L)) mode) (numC (hrN L) (hrM M (hrK L)) (hrX M (hrK L)) mode) 0):=by
 have KN:=hid (fun w=>known_any mode w)
 rw [show knownB mode=true by unfold knownB;exact decide_eq_true hm] at KN
 have hsz:=bs_size L
 have PZ:=hid (fun w=>hparse_ok L w hl h)
 have hD:=hrD_hx L
 have hDl:=hrD_len L
 have MA:=hid (fun w=>mantissa_any (hrD L) w hD (by omega))
 have hk:=hrK_bd L hl h
 have hbl:bl M≤4000:=by rw [←hM];exact hvl_bl _ hD (by omega)
 have hMl:(limbs M).length≤3002:=by
  rw [←hM]
  exact Nat.le_trans (limbs_len_mono (Nat.le_of_lt (hvl_lt _ hD))) (limbs_hex _ (by omega))
 rw [hM] at MA
 have hlp: ¬(limbs M).length=0:=fun e=>by
  have:=(limbs_nil M).1 (List.length_eq_zero_iff.1 e);omega
 have hlp2: ¬((limbs M).length:Int)=0:=by omega
 have LN:=hid (fun a c w h0=>natLen_any a c M w h0 (by omega))
 have OF:=hid (show ∀w,Calls Tryz.prog 95 #[.int .u64 1] w fun e w'=>RetN w 1 e w' from fun w=>natOf_any 1 (by omega) w)
 have l1:(limbs 1).length=1:=rfl
 obtain ⟨K,hK⟩: ∃K,K=hrK L:=⟨_,rfl⟩
 obtain ⟨M',hM'⟩: ∃M',M'=hrM M K:=⟨_,rfl⟩
 obtain ⟨K',hK'⟩: ∃K',K'=hrX M K:=⟨_,rfl⟩
 rw [←hK] at hk PZ ⊢
 rw [←hM',←hK']
 have wT:IntKind.i64.wrap ((bl M:Int)+K)=(bl M:Int)+K:=IntWalk.i64_in _ (by omega)
 have NU:Hid (∀(neg:Bool) (a:Option Addr) (c:Nat) w (h0:Ns .u32 w a c (limbs M')),Calls Tryz.prog 86 #[.agg #[.bool neg,.slice a (limbs M').length c,.int .i64 K'],.int .i64 mode] w (RetX w (numX neg M' K' mode) (numC neg M' K' mode))):=hid (fun neg a c w h0=>by
  refine number_any neg a c M' K' mode w h0 ?_ ?_ ?_
  ·rw [hM'];unfold hrM;split
   ·rw [l1];omega
   ·omega
  ·rw [hK'];unfold hrX;split
   ·omega
   ·split<;>omega
  ·intro h9;exfalso;rw [hM'] at h9;revert h9;unfold hrM;split<;>omega)
 generalize bsOf L=Q at *
 generalize hrN L=ne at *
 generalize hrD L=dd at *
 obtain ⟨B,hB⟩: ∃B,(bl M:Int)=B:=⟨_,rfl⟩
 rw [hB] at LN wT
 have H3:(2000<B+K∧M'=1∧K'=2000)∨(¬2000<B+K∧B+K< -2000∧M'=1∧K'= -2000)∨(¬2000<B+K∧ ¬B+K< -2000∧M'=M∧K'=K):=by
  rw [hM',hK']
  unfold hrM hrX
  rw [hB]
  by_cases g1:2000<B+K
  ·exact .inl ⟨g1,if_pos (.inl g1),if_pos g1⟩
  ·by_cases g2:B+K< -2000
   ·exact .inr (.inl ⟨g1,g2,if_pos (.inr g2),by rw [if_neg g1,if_pos g2]⟩)
   ·exact .inr (.inr ⟨g1,g2,if_neg (fun h=>h.elim g1 g2),by rw [if_neg g1,if_neg g2]⟩)
 clear hM' hK' hB hK h hD hDl hM h0 hbl hk l1
 rcases H3 with ⟨g1,rfl,rfl⟩|⟨g1,g2,rfl,rfl⟩|⟨g1,g2,rfl,rfl⟩
 ·cases ne
  ·go_enter Tryz.func36,Tryz.ntmps36
   go_wp2_with (first|(first|(first|(go_at_call 78;(with_reducible refine (KN.out _).mono ?_);rintro en w1 ⟨rfl,rfl⟩)|(go_at_call 92;(with_reducible refine (PZ.out _).mono ?_);rintro en w2 ⟨rfl,hb2⟩))|(go_at_call 93;(with_reducible refine (MA.out _).mono ?_);rintro en w3 ⟨a3,c3,rfl,hN3,hb3⟩))|(go_at_call 94;(with_reducible refine (LN.out _ _ _ hN3).mono ?_);rintro en w4 ⟨rfl,rfl⟩)|(go_at_call 95;(with_reducible refine (OF.out _).mono ?_);rintro en w5 ⟨a5,rfl,hN5,hb5⟩)|(go_at_call 86;(with_reducible refine (NU.out _ _ _ _ hN5).mono ?_);rintro en w6 ⟨rfl,hb6⟩))
   go_ret3
   exact ⟨rfl,by (repeat' first|(with_reducible first|assumption|apply bR|apply bA|apply bN|apply bD|apply bL|apply bS)|refine bT ?_ (by assumption)|go_size)⟩
  ·go_enter Tryz.func36,Tryz.ntmps36
   go_wp2_with (first|(first|(first|(go_at_call 78;(with_reducible refine (KN.out _).mono ?_);rintro en w1 ⟨rfl,rfl⟩)|(go_at_call 92;(with_reducible refine (PZ.out _).mono ?_);rintro en w2 ⟨rfl,hb2⟩))|(go_at_call 93;(with_reducible refine (MA.out _).mono ?_);rintro en w3 ⟨a3,c3,rfl,hN3,hb3⟩))|(go_at_call 94;(with_reducible refine (LN.out _ _ _ hN3).mono ?_);rintro en w4 ⟨rfl,rfl⟩)|(go_at_call 95;(with_reducible refine (OF.out _).mono ?_);rintro en w5 ⟨a5,rfl,hN5,hb5⟩)|(go_at_call 86;(with_reducible refine (NU.out _ _ _ _ hN5).mono ?_);rintro en w6 ⟨rfl,hb6⟩))
   go_ret3
   exact ⟨rfl,by (repeat' first|(with_reducible first|assumption|apply bR|apply bA|apply bN|apply bD|apply bL|apply bS)|refine bT ?_ (by assumption)|go_size)⟩
 ·cases ne
  ·go_enter Tryz.func36,Tryz.ntmps36
   go_wp2_with (first|(first|(first|(go_at_call 78;(with_reducible refine (KN.out _).mono ?_);rintro en w1 ⟨rfl,rfl⟩)|(go_at_call 92;(with_reducible refine (PZ.out _).mono ?_);rintro en w2 ⟨rfl,hb2⟩))|(go_at_call 93;(with_reducible refine (MA.out _).mono ?_);rintro en w3 ⟨a3,c3,rfl,hN3,hb3⟩))|(go_at_call 94;(with_reducible refine (LN.out _ _ _ hN3).mono ?_);rintro en w4 ⟨rfl,rfl⟩)|(go_at_call 95;(with_reducible refine (OF.out _).mono ?_);rintro en w5 ⟨a5,rfl,hN5,hb5⟩)|(go_at_call 86;(with_reducible refine (NU.out _ _ _ _ hN5).mono ?_);rintro en w6 ⟨rfl,hb6⟩))
   go_ret3
   exact ⟨rfl,by (repeat' first|(with_reducible first|assumption|apply bR|apply bA|apply bN|apply bD|apply bL|apply bS)|refine bT ?_ (by assumption)|go_size)⟩
  ·go_enter Tryz.func36,Tryz.ntmps36
   go_wp2_with (first|(first|(first|(go_at_call 78;(with_reducible refine (KN.out _).mono ?_);rintro en w1 ⟨rfl,rfl⟩)|(go_at_call 92;(with_reducible refine (PZ.out _).mono ?_);rintro en w2 ⟨rfl,hb2⟩))|(go_at_call 93;(with_reducible refine (MA.out _).mono ?_);rintro en w3 ⟨a3,c3,rfl,hN3,hb3⟩))|(go_at_call 94;(with_reducible refine (LN.out _ _ _ hN3).mono ?_);rintro en w4 ⟨rfl,rfl⟩)|(go_at_call 95;(with_reducible refine (OF.out _).mono ?_);rintro en w5 ⟨a5,rfl,hN5,hb5⟩)|(go_at_call 86;(with_reducible refine (NU.out _ _ _ _ hN5).mono ?_);rintro en w6 ⟨rfl,hb6⟩))
   go_ret3
   exact ⟨rfl,by (repeat' first|(with_reducible first|assumption|apply bR|apply bA|apply bN|apply bD|apply bL|apply bS)|refine bT ?_ (by assumption)|go_size)⟩
 ·cases ne
  ·go_enter Tryz.func36,Tryz.ntmps36
   go_wp2_with (first|(first|(first|(go_at_call 78;(with_reducible refine (KN.out _).mono ?_);rintro en w1 ⟨rfl,rfl⟩)|(go_at_call 92;(with_reducible refine (PZ.out _).mono ?_);rintro en w2 ⟨rfl,hb2⟩))|(go_at_call 93;(with_reducible refine (MA.out _).mono ?_);rintro en w3 ⟨a3,c3,rfl,hN3,hb3⟩))|(go_at_call 94;(with_reducible refine (LN.out _ _ _ hN3).mono ?_);rintro en w4 ⟨rfl,rfl⟩)|(go_at_call 95;(with_reducible refine (OF.out _).mono ?_);rintro en w5 ⟨a5,rfl,hN5,hb5⟩)|(go_at_call 86;(with_reducible refine (NU.out _ _ _ _ hN3).mono ?_);rintro en w6 ⟨rfl,hb6⟩))
   go_ret3
   exact ⟨rfl,by (repeat' first|(with_reducible first|assumption|apply bR|apply bA|apply bN|apply bD|apply bL|apply bS)|refine bT ?_ (by assumption)|go_size)⟩
  ·go_enter Tryz.func36,Tryz.ntmps36
   go_wp2_with (first|(first|(first|(go_at_call 78;(with_reducible refine (KN.out _).mono ?_);rintro en w1 ⟨rfl,rfl⟩)|(go_at_call 92;(with_reducible refine (PZ.out _).mono ?_);rintro en w2 ⟨rfl,hb2⟩))|(go_at_call 93;(with_reducible refine (MA.out _).mono ?_);rintro en w3 ⟨a3,c3,rfl,hN3,hb3⟩))|(go_at_call 94;(with_reducible refine (LN.out _ _ _ hN3).mono ?_);rintro en w4 ⟨rfl,rfl⟩)|(go_at_call 95;(with_reducible refine (OF.out _).mono ?_);rintro en w5 ⟨a5,rfl,hN5,hb5⟩)|(go_at_call 86;(with_reducible refine (NU.out _ _ _ _ hN3).mono ?_);rintro en w6 ⟨rfl,hb6⟩))
   go_ret3
   exact ⟨rfl,by (repeat' first|(with_reducible first|assumption|apply bR|apply bA|apply bN|apply bD|apply bL|apply bS)|refine bT ?_ (by assumption)|go_size)⟩
end Go.Proofs.YtfphmlmgjhebjaaGreatDoor
namespace Go.Ulp
open Go.RowKit
theorem shZ_fit (D:Dy) (E f k:Nat) (pd:Int) (hv:IsVal D E f) (hf:f<4503599627370496) (hr:1≤E*4503599627370496+f) (h:shS D E f k pd=true):fitP E f (shZ D E f k pd) (pd-k)=true:=by
 have hx:=sh_exact D E f k pd hv hf hr
 unfold shZ
 unfold shS at h
 unfold shU
 by_cases h0:shR D k pd=0
 ·have hl:=hx h0
  rw [show decide (shR D k pd≠0)=false from decide_eq_false (fun h=>h h0),Bool.false_and,Bool.false_and,if_neg (by decide)]
  exact hl
 ·rw [decide_eq_true h0,Bool.true_and]
  cases hu:fitP E f (shL D k pd+1) (pd-k)
  ·rw [hu,Bool.or_false] at h
   rw [Bool.false_and,if_neg (by decide)];exact h
  ·cases hl:fitP E f (shL D k pd) (pd-k)
   ·rw [Bool.false_and,Bool.not_false,Bool.and_true,if_pos rfl];exact hu
   ·rw [Bool.true_and,Bool.true_and]
    split
    ·exact hu
    ·exact hl
theorem sh_seventeen (D:Dy) (E f:Nat) (pd:Int) (hv:IsVal D E f) (hf:f<4503599627370496) (hr:1≤E*4503599627370496+f) (hp:IsDec (dA D) (dB D) pd):shS D E f 16 pd=true:=by
 have hvr:dA D*2^1074=rvi (E*4503599627370496+f)*dB D:=by rw [(rvi_lm E f hf).1];exact hv
 have h:=fit_sci (dA D) (dB D) _ pd (dB_pos D) hp hr hvr
 have e:(pd-16:Int)=pd-((16:Nat):Int):=rfl
 rw [e,←fitP_iff E f _ _ hf hr] at h
 have hs:sciQ false (dA D) (dB D) 16 pd 0=shL D 16 pd∨sciQ false (dA D) (dB D) 16 pd 0=shL D 16 pd+1:=by
  unfold sciQ rtN
  split
  ·exact .inr rfl
  ·exact .inl rfl
 unfold shS
 rcases hs with h1|h1<;>rw [h1] at h<;>rw [h]
 ·rfl
 ·rw [Bool.or_true]
theorem dropz_head {d:List UInt8} (h1:d≠ []) (hz:(d.dropWhile fun b=>b==48)=d): ∃b r,d=b::r∧(b==48)=false:=by
 cases d with
 |nil=>exact absurd rfl h1
 |cons b r=>
  refine ⟨b,r,rfl,?_⟩
  exact drop_head (fun b=>b==48) (b::r) b r hz
theorem dropz_rep (n:Nat) (d:List UInt8):((List.replicate n 48++d).dropWhile fun b=>b==48)=d.dropWhile fun b=>b==48:=by
 induction n with
 |zero=>rfl
 |succ n ih=>rw [List.replicate_succ,List.cons_append,List.dropWhile_cons,if_pos (by decide)];exact ih
def RdIs (T:List UInt8) (neg:Bool) (Z:Nat) (q:Int):Prop:=
 T.length≤1000∧rdE T=0∧rdN T=neg∧rdD T≠ []∧(-1000≤rdK T∧rdK T≤1000)∧dvl (rdD T)*10^(rdK T).toNat*10^(-q).toNat=Z*10^q.toNat*10^(-rdK T).toNat
theorem dsh_len1 (neg:Bool) (L:List UInt8):(dsh neg L).length≤L.length+1:=by unfold dsh;split<;>simp
theorem shT_read (neg:Bool) (d:List UInt8) (q:Int) (hd:AllDg d) (h1:d≠ []) (h2:d.length≤100) (hz:(d.dropWhile fun b=>b==48)=d) (hq: -900≤q∧q≤900):RdIs (dsh neg (shT d q)) neg (dvl d) q:=by
 have hl1:1≤d.length:=by cases d with
  |nil=>exact absurd rfl h1
  |cons b r=>simp
 obtain ⟨b,r,hbr,hb⟩:=dropz_head h1 hz
 have key: ∀(I F P:List UInt8) (e:Int),AllDg I→I≠ []→AllDg F→PwOk P e→shT d q=I++((if F= [] then [] else 46::F)++P)→(I++((if F= [] then [] else 46::F)++P)).length≤900→((I++F).dropWhile fun b=>b==48)≠ []→(-1000≤e-(F.length:Int)∧e-(F.length:Int)≤1000)→
  dvl ((I++F).dropWhile fun b=>b==48)*10^(e-(F.length:Int)).toNat*10^(-q).toNat=dvl d*10^q.toNat*10^(-(e-(F.length:Int))).toNat→RdIs (dsh neg (shT d q)) neg (dvl d) q:=by
  intro I F P e hI hI0 hF hP hs hl hne hk hv
  have hl2:=dsh_len1 neg (I++((if F= [] then [] else 46::F)++P))
  rw [hs]
  obtain ⟨g1,g2,g3,g4⟩:=rd_form neg I F P _ e hI hI0 hF hP rfl (by omega)
  have g5:=g4 (by rw [g3];exact hne)
  exact ⟨by omega,g1,g2,by rw [g3];exact hne,by rw [g5];exact hk,by rw [g3,g5];exact hv⟩
 have hnil:d.take 1≠ []:=by rw [hbr];simp
 by_cases c1:q+(d.length:Int)-1< -5∨20<q+(d.length:Int)-1
 ·refine key (d.take 1) (d.drop 1) (101::pwrT (q+(d.length:Int)-1)) (q+(d.length:Int)-1) (fun b hb=>hd b (List.mem_of_mem_take hb)) hnil (fun b hb=>hd b (List.mem_of_mem_drop hb)) (.inr ⟨rfl,by omega⟩) ?_ ?_ ?_ ?_ ?_
  ·unfold shT
   rw [if_pos c1]
   congr 2
   by_cases c:1<d.length
   ·rw [if_pos c,if_neg (fun h=>by have:=congrArg List.length h;rw [List.length_drop,List.length_nil] at this;omega)]
   ·rw [if_neg c,if_pos (List.drop_eq_nil_of_le (by omega))]
  ·have g:=pwG_len (q+(d.length:Int)-1) (by omega)
   have e9:(pwrT (q+(d.length:Int)-1)).length=(pwG (q+(d.length:Int)-1)).length+1:=by rw [pwrT_G];simp
   have e8:(if d.drop 1= [] then ([]:List UInt8) else 46::d.drop 1).length≤d.length:=by
    split
    ·simp
    ·rw [List.length_cons,List.length_drop];omega
   rw [List.length_append,List.length_append,List.length_cons,List.length_take]
   omega
  ·rw [List.take_append_drop,hz];exact h1
  ·rw [List.length_drop];omega
  ·rw [List.take_append_drop,hz,List.length_drop,show q+(d.length:Int)-1-((d.length-1:Nat):Int)=q by omega]
 ·by_cases c2:0≤q
  ·have eD:((d++List.replicate q.toNat 48++ []).dropWhile fun b=>b==48)=d++List.replicate q.toNat 48:=by
    rw [List.append_nil,hbr,List.cons_append,List.dropWhile_cons,if_neg (by rw [hb];decide)]
   refine key (d++List.replicate q.toNat 48) [] [] 0 (allDg_app hd (allDg_rep _)) (by rw [hbr];simp) (fun b hb=>by cases hb) (.inl ⟨rfl,rfl⟩) ?_ ?_ ?_ ?_ ?_
   ·unfold shT
    rw [if_neg c1,if_pos c2];simp
   ·simp;omega
   ·rw [eD,hbr];simp
   ·simp
   ·rw [eD,dvl_app_rep,show (-q).toNat=0 by omega]
    simp
  ·by_cases c3:0≤q+(d.length:Int)-1
   ·have hFl:(d.drop (q+(d.length:Int)).toNat).length=(-q).toNat:=by rw [List.length_drop];omega
    have hF0:d.drop (q+(d.length:Int)).toNat≠ []:=fun h=>by rw [h,List.length_nil] at hFl;omega
    have hI0:d.take (q+(d.length:Int)).toNat≠ []:=fun h=>by
     have:=congrArg List.length h
     rw [List.length_take,List.length_nil] at this;omega
    refine key (d.take (q+(d.length:Int)).toNat) (d.drop (q+(d.length:Int)).toNat) [] 0 (fun b hb=>hd b (List.mem_of_mem_take hb)) hI0 (fun b hb=>hd b (List.mem_of_mem_drop hb)) (.inl ⟨rfl,rfl⟩) ?_ ?_ ?_ ?_ ?_
    ·unfold shT
     rw [if_neg c1,if_neg c2,if_pos c3,if_neg hF0,List.append_nil]
    ·rw [if_neg hF0,List.append_nil,List.length_append,List.length_cons,hFl,List.length_take];omega
    ·rw [List.take_append_drop,hz];exact h1
    ·rw [hFl];omega
    ·rw [List.take_append_drop,hz,hFl,show (0:Int)-(((-q).toNat:Nat):Int)=q by omega]
   ·have hF0:List.replicate (-(q+(d.length:Int))).toNat 48++d≠ []:=fun h=>h1 (List.append_eq_nil_iff.1 h).2
    have hFl:(List.replicate (-(q+(d.length:Int))).toNat (48:UInt8)++d).length=(-q).toNat:=by rw [List.length_append,List.length_replicate];omega
    have eD:(([48]++(List.replicate (-(q+(d.length:Int))).toNat 48++d)).dropWhile fun b=>b==48)=d:=by
     rw [show ([48]:List UInt8)=List.replicate 1 48 from rfl,dropz_rep,dropz_rep,hz]
    refine key [48] (List.replicate (-(q+(d.length:Int))).toNat 48++d) [] 0 (allDg_rep 1) (by simp) (allDg_app (allDg_rep _) hd) (.inl ⟨rfl,rfl⟩) ?_ ?_ ?_ ?_ ?_
    ·unfold shT
     rw [if_neg c1,if_neg c2,if_neg c3,if_neg hF0,List.append_nil];rfl
    ·rw [if_neg hF0,List.append_nil]
     have h9:=hFl
     simp only [List.length_append,List.length_cons,List.length_nil] at h9 ⊢
     omega
    ·rw [eD];exact h1
    ·rw [hFl];omega
    ·rw [eD,hFl,show (0:Int)-(((-q).toNat:Nat):Int)=q by omega]
theorem sci_read (neg:Bool) (Q:Nat) (pd:Int) (h0:10^16≤Q) (h1:Q≤10^(16+1)) (hp: -600≤pd∧pd≤600):RdIs (dsh neg (ptd (sciD Q 16) 16++101::pwrT (sciP Q 16 pd))) neg Q (pd-16):=by
 have hlen:=sciD_len Q 16 h0 h1
 have e16:(10:Nat)^16=10000000000000000:=by decide
 have e17:(10:Nat)^(16+1)=100000000000000000:=by decide
 obtain ⟨N,hN1,hN2⟩: ∃N,sciD Q 16=decD N∧0<N:=by
  unfold sciD;split
  ·exact ⟨_,rfl,by omega⟩
  ·exact ⟨_,rfl,by omega⟩
 obtain ⟨b,r,hbr,hb⟩:=decD_head N hN2
 have hdg:=decD_dg N
 have hz:((sciD Q 16).dropWhile fun b=>b==48)=sciD Q 16:=by
  rw [hN1,hbr,List.dropWhile_cons,if_neg (by simpa using hb)]
 have hv:dvl (sciD Q 16)=N:=by rw [hN1,dvl_decD]
 have hpb: -600≤sciP Q 16 pd∧sciP Q 16 pd≤601:=by unfold sciP;split<;>omega
 have hval:N*10^(sciP Q 16 pd-16).toNat*10^(-(pd-16)).toNat=Q*10^(pd-16).toNat*10^(-(sciP Q 16 pd-16)).toNat:=by
  have hN3:N=if 10^(16+1)≤Q then Q/10 else Q:=by
   have:decD N=decD (if 10^(16+1)≤Q then Q/10 else Q):=by rw [←hN1];unfold sciD;split<;>rfl
   have h9:=congrArg dvl this
   rwa [dvl_decD,dvl_decD] at h9
  unfold sciP
  by_cases c:10^(16+1)≤Q
  ·rw [if_pos c] at hN3 ⊢
   have hQ:Q=N*10:=by omega
   rw [hQ,Nat.mul_assoc,←Nat.pow_add,Nat.mul_assoc,Nat.mul_assoc N 10,←Nat.pow_add,←Nat.pow_succ']
   congr 2;omega
  ·rw [if_neg c] at hN3 ⊢
   rw [hN3]
 generalize sciP Q 16 pd=p at *
 have hI0:(sciD Q 16).take 1≠ []:=by rw [hN1,hbr];simp
 have hd1:AllDg (sciD Q 16):=by rw [hN1];exact hdg
 generalize sciD Q 16=D at *
 rw [ptd_first D 16 hlen (by omega)]
 have hF0:D.drop 1≠ []:=fun h=>by have:=congrArg List.length h;rw [List.length_drop,List.length_nil] at this;omega
 have hFl:(D.drop 1).length=16:=by rw [List.length_drop];omega
 have g9:=pwG_len p (by omega)
 have e9:(pwrT p).length=(pwG p).length+1:=by rw [pwrT_G];simp
 have hl2:=dsh_len1 neg (D.take 1++46::D.drop 1++101::pwrT p)
 have hl3:(D.take 1++46::D.drop 1++101::pwrT p).length≤100:=by
  rw [List.length_append,List.length_append,List.length_cons,List.length_cons,hFl,List.length_take];omega
 obtain ⟨g1,g2,g3,g4⟩:=rd_form neg (D.take 1) (D.drop 1) (101::pwrT p) (dsh neg (D.take 1++46::D.drop 1++101::pwrT p)) p (fun b hb=>hd1 b (List.mem_of_mem_take hb)) hI0 (fun b hb=>hd1 b (List.mem_of_mem_drop hb)) (.inr ⟨rfl,by omega⟩) (by rw [if_neg hF0];simp) (by omega)
 rw [List.take_append_drop,hz] at g3
 have hne:rdD (dsh neg (D.take 1++46::D.drop 1++101::pwrT p))≠ []:=by
  rw [g3];intro h;rw [h] at hlen;cases hlen
 have g5:=g4 hne
 rw [hFl] at g5
 refine ⟨by omega,g1,g2,hne,by rw [g5];omega,?_⟩
 rw [g3,g5,hv]
 exact hval
theorem sci_zero (neg:Bool):rdE (dsh neg (ptd (List.replicate 17 48) 16++101::pwrT 0))=0∧rdN (dsh neg (ptd (List.replicate 17 48) 16++101::pwrT 0))=neg∧rdD (dsh neg (ptd (List.replicate 17 48) 16++101::pwrT 0))= []:=by
 cases neg<;>decide+kernel
theorem sh_zero (neg:Bool):rdE (dsh neg [48])=0∧rdN (dsh neg [48])=neg∧rdD (dsh neg [48])= []:=by
 cases neg<;>decide+kernel
theorem hxd_hxc: ∀d:Nat,d<16→hxd (hxc d)=d∧isHx (hxc d)=true:=by decide
theorem hxD_hx (n m:Nat):AllHx (hxD n m):=by
 induction n with
 |zero=>intro b hb;cases hb
 |succ n ih=>
  intro b hb
  rcases List.mem_cons.1 hb with h|h
  ·rw [h];exact (hxd_hxc _ (Nat.mod_lt _ (by omega))).2
  ·exact ih b h
theorem hvl_hxD (n m:Nat):hvl (hxD n m)=m%16^n:=by
 induction n with
 |zero=>rw [Nat.pow_zero,Nat.mod_one];rfl
 |succ n ih=>
  show hvl (hxc (m/16^n%16)::hxD n m)=_
  rw [hvl_cons,hvA_acc,ih,hxD_len,(hxd_hxc _ (Nat.mod_lt _ (by omega))).1,Nat.pow_succ,Nat.mod_mul,Nat.add_comm,Nat.mul_comm]
theorem hx_read (neg:Bool) (n m:Nat) (p:Int) (hn:n≤100) (hm0:16^n≤m) (hm1:m<2*16^n) (hp:p.natAbs<10000) (T:List UInt8) (hT:T=hxT neg n m p):
 T.length≤1000∧hrO T=true∧hrN T=neg∧hvl (hrD T)=m∧hrK T=p-4*(n:Int):=by
 obtain ⟨B,hB⟩: ∃B,B=49::((if n=0 then [] else 46::hxD n m)++hxP p):=⟨_,rfl⟩
 have hT2:T=dsh neg (48::120::B):=by rw [hT,hB];rfl
 have eN:hrN T=neg:=by
  unfold hrN;rw [hT2];unfold dsh
  cases neg<;>rfl
 have eR:rdT T=48::120::B:=by
  unfold rdT
  rw [trimPrefix_one,show Lib.hasPrefix T [45]=neg from eN,hT2]
  cases neg<;>rfl
 have eH:Lib.hasPrefix (rdT T) [48,120]=true:=by rw [eR];rfl
 have eT:hrT T=B:=by
  unfold hrT Lib.trimPrefix
  rw [eH,if_pos rfl,eR];rfl
 have hdl:=decD_len 3 p.natAbs (by omega)
 have hd1:1≤(decD p.natAbs).length:=by
  cases hd:decD p.natAbs with
  |nil=>exact absurd hd (decD_ne _)
  |cons b r=>simp
 have good:HxGood B [49] (hxD n m) (decide (n≠0)) (if p<0 then [45] else [43]) (decD p.natAbs):=by
  refine ⟨?_,?_,hxD_hx n m,?_,by simp,?_,decD_dg _,hd1,by omega⟩
  ·rw [hB];unfold hxP
   by_cases h0:n=0<;>by_cases c:p<0<;>simp [h0,c]
  ·intro b hb;rw [List.mem_singleton] at hb;subst hb;decide
  ·intro h
   have:n=0:=by simpa using of_decide_eq_false h
   subst this;rfl
  ·split
   ·exact .inr (.inl rfl)
   ·exact .inr (.inr rfl)
 obtain ⟨k1,k2,k3,k4,k5⟩:=hx_prog good
 have hdn:hxDn B=decide (p<0):=by
  rw [k5]
  by_cases c:p<0
  ·rw [if_pos c,decide_eq_true c];rfl
  ·rw [if_neg c,decide_eq_false c];decide
 refine ⟨?_,?_,eN,?_,?_⟩
 ·have hl:=dsh_len1 neg (48::120::B)
  have hb:B.length≤120:=by
   rw [hB];unfold hxP
   rw [List.length_cons,List.length_append,List.length_cons,List.length_cons]
   have:(if n=0 then ([]:List UInt8) else 46::hxD n m).length≤n+1:=by
    split
    ·simp
    ·rw [List.length_cons,hxD_len];omega
   omega
  rw [hT2]
  rw [List.length_cons,List.length_cons] at hl
  omega
 ·unfold hrO;rw [eH,eT,k1];rfl
 ·unfold hrD
  rw [eT,k2,k3,List.singleton_append,hvl_cons,hvA_acc,hvl_hxD,hxD_len]
  have h16:m%16^n=m-16^n:=by
   rw [Nat.mod_eq_sub_mod hm0,Nat.mod_eq_of_lt (by omega)]
  rw [h16,show hxd 49=1 from rfl];omega
 ·unfold hrK hrP
  rw [eT,hdn,k4,k3,hxD_len,dvl_decD]
  by_cases c:p<0
  ·rw [decide_eq_true c,if_pos rfl];omega
  ·rw [decide_eq_false c,if_neg (by decide)];omega
theorem same_two (K s M:Nat) (c0:Nat):SameC s ((M*2^(c0+K):Nat):Int) K (M*2^c0) (2^s):=by
 refine same_of _ _ K _ _ (fun q h c _ _=>?_)
 rw [Nat.pow_add,pw_nat]
 congr 1
 rw [←Int.natCast_mul,←Int.natCast_mul,Nat.mul_assoc M]
theorem rdok_two (M:Nat) (k:Int) (hM:0<M):RdOk (M*2^k.toNat) (2^(-k).toNat) M k:=by
 refine ⟨hM,(-k).toNat,by omega,?_⟩
 rw [show (k+1074+((-k).toNat:Int)).toNat=k.toNat+1074 by omega]
 exact same_two 1074 _ M _
theorem pow_join (A c k W j l:Nat) (h:c+(k+W)=j+l):A*2^c*2^k*2^W=A*2^j*2^l:=by
 rw [Nat.mul_assoc,Nat.mul_assoc,Nat.mul_assoc,←Nat.pow_add,←Nat.pow_add,←Nat.pow_add,h]
theorem hx_val (x:Int) (h0:0≤x) (h1:x<18446744073709551616) (r:Nat) (hr:(rankOf x).natAbs=r) (hz:(fv x).1≠0) (n:Nat) (hn:n=hfN (fv x)):
 16^n≤hfM (fv x) n∧hfM (fv x) n<2*16^n∧hfM (fv x) n*2^(hfK (fv x)-4*(n:Int)).toNat*2^1074=rvi r*2^(-(hfK (fv x)-4*(n:Int))).toNat:=by
 obtain ⟨j,j1,j2⟩:=nrm_rep (rvs (rankOf x)) (-1074)
 rw [←fv_rank x h0 h1] at j1 j2
 have hrv:(rvs (rankOf x)).natAbs=rvi r:=by
  rw [←hr];unfold rvs;split<;>omega
 have j3:=j2 (fun h=>by rw [h] at j1;exact hz ((Int.mul_eq_zero.1 j1.symm).resolve_right (by have:=pw_pos j;omega)))
 have j4:=congrArg Int.natAbs j1
 rw [natAbs_mul_pw,hrv] at j4
 have hbp:=(bl_pos (fv x).1.natAbs).2 (by omega)
 have hlo:2^(bl (fv x).1.natAbs-1)≤(fv x).1.natAbs:=by
  rcases Nat.lt_or_ge (fv x).1.natAbs (2^(bl (fv x).1.natAbs-1)) with h|h
  ·have:=(bl_le _ (bl (fv x).1.natAbs-1)).2 h;omega
  ·exact h
 have hhi:=lt_bl (fv x).1.natAbs
 have hK:hfK (fv x)=(bl (fv x).1.natAbs:Int)+(fv x).2-1:=rfl
 unfold hfN at hn
 unfold hfM
 rw [hK] at *
 generalize (fv x).1.natAbs=A at *
 generalize (fv x).2=X at *
 generalize rvi r=V at *
 obtain ⟨c,hc⟩: ∃c:Nat,c=(X-((bl A:Int)+X-1)+4*(n:Int)).toNat:=⟨_,rfl⟩
 rw [←hc]
 have hc2:bl A-1+c=4*n:=by omega
 have e16:16^n=2^(4*n):=by rw [Nat.pow_mul]
 refine ⟨?_,?_,?_⟩
 ·rw [e16,←hc2,Nat.pow_add];exact Nat.mul_le_mul_right _ hlo
 ·rw [e16,←hc2,Nat.pow_add,←Nat.mul_assoc,←Nat.pow_succ',show (bl A-1).succ=bl A by omega]
  exact Nat.mul_lt_mul_of_pos_right hhi (Nat.two_pow_pos _)
 ·rw [j4]
  exact pow_join A c _ 1074 j _ (by omega)
end Go.Ulp
