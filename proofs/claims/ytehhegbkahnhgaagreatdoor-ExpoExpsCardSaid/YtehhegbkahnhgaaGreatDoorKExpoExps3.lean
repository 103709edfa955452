/- ExpoExps: what the proof leans on, part 3 (Nat3 Z2). -/
import Derived.Test.YtehhegbkahnhgaaGreatDoorRows
import Derived.Test.YtehhegbkahnhgaaGreatDoorKExpoExps2
set_option linter.unusedVariables false
set_option linter.unusedSimpArgs false
namespace Go.Proofs.YtehhegbkahnhgaaGreatDoor
open Go.RowKit Go.Ulp
set_option maxHeartbeats 400000
theorem ei_u32:ElemInfo Tryz.prog 36 106 .u32 4:=ElemInfo.mk Tryz.underlying36 (by kernel_rfl)
theorem ei_int:ElemInfo Tryz.prog 45 3 .i64 8:=ElemInfo.mk Tryz.underlying45 (by kernel_rfl)
theorem norm_any (ao:Option Addr) (cap:Nat) (L:List Nat) (w:World) (h:Ns .u32 w ao cap L) (hl:Lim L):
 Calls Tryz.prog 108 #[.slice ao L.length cap] w fun e w'=>e=.returned (.slice ao (limbs (lval L)).length (limbs (lval L)).length)∧w=w':=by
 obtain ⟨h1,h2,h3⟩:=h
 unfold maxLen at h2
 go_enter Tryz.func108,Tryz.ntmps108
 go_wp2_with fail
 go_loop [0] (fun v=> ∃k:Nat,k≤L.length∧v=.slice ao k cap∧ ∀d∈L.drop k,d=0) (fun v=>match v with| .slice _ k _=>k|_=>0)
 case atStart=>exact ⟨L.length,Nat.le_refl _,rfl,by simp⟩
 case round=>
  obtain ⟨k,hk,rfl,hz⟩:=hrel
  have HZ:=hid hz
  clear hz
  cases k with
  |zero=>
   have e:=hid (limbs_cut L hl 0 HZ.out (fun h=>by simp at h))
   go_wp2
   go_ret
   refine ⟨?_,rfl⟩
   rw [e.out];rfl
  |succ m=>
   obtain ⟨b,off,rfl,hc⟩:=h3 (by omega)
   have hcell:=hc m (by omega)
   clear hc h3
   by_cases hd:lb L m=0
   ·go_wp2
    go_round
    case rel=>exact ⟨m,by omega,by go_num,drop_zero_succ L m (by omega) (by unfold lb at hd;omega) HZ.out⟩
    case measure=>simp
   ·have hd':(lb L m==0)=false:=by simpa using hd
    have hdn:L.getD m 0≠0:=by unfold lb at hd;omega
    have e:=hid (limbs_cut L hl (m+1) HZ.out (trim_take L m (by omega) hdn))
    clear hdn
    go_wp2
    go_ret
    refine ⟨?_,rfl⟩
    rw [e.out,List.length_take,Nat.min_eq_left (by omega)]
    rfl
theorem natOf_any (n:Nat) (hn:n<18446744073709551616) (w:World):
 Calls Tryz.prog 66 #[.int .u64 (n:Int)] w fun e w'=>RetN w n e w':=by
 have hl:Lim [n%4294967296,n/4294967296]:=AllLt.cons.2 ⟨by omega,AllLt.cons.2 ⟨by omega,AllLt.nil⟩⟩
 have hv:lval [n%4294967296,n/4294967296]=n:=by unfold lval;simp only [val];omega
 have hN:Ns .u32 (w.alloc (.cells #[.int .u32 ((n:Int)%4294967296),.int .u32 ((n:Int)/4294967296)] 106)) (some ⟨w.heap.size,0,none⟩) 2 [n%4294967296,n/4294967296]:=by
  refine ⟨by simp,by unfold maxLen;omega,fun _=>⟨_,_,rfl,fun i hi=>?_⟩⟩
  match i,hi with
  |0,_=>rw [World.cell?_alloc_at (hn:=rfl)];simp [lb]
  |1,_=>rw [World.cell?_alloc_at (hn:=rfl)];simp [lb]
 have hN':=hN.norm hl
 rw [hv] at hN'
 have HV:=hid hv
 clear hv
 go_enter Tryz.func66,Tryz.ntmps66
 go_wp2_with fail
 refine (norm_any _ 2 _ _ hN hl).mono ?_;rintro e w' ⟨rfl,rfl⟩
 rw [HV.out]
 go_wp2_with fail
 go_ret
 exact ⟨_,rfl,hN',below_alloc _ _⟩
theorem cmpInt_any (a b:Int) (w:World):
 Calls Tryz.prog 111 #[.int .i64 a,.int .i64 b] w fun e w'=>e=.returned (.int .i64 (cmpI a b))∧w=w':=by
 have hc:=hid (show cmpI a b=if a<b then -1 else if b<a then 1 else 0 from rfl)
 by_cases h1:a<b
 ·go_enter Tryz.func111,Tryz.ntmps111
  go_wp2
  go_ret
  exact ⟨ret_int (by rw [hc.out,if_pos h1]),rfl⟩
 ·by_cases h2:b<a
  all_goals
   go_enter Tryz.func111,Tryz.ntmps111
   go_wp2
   go_ret
   exact ⟨ret_int (by rw [hc.out,if_neg (by omega)];first|rw [if_pos (by omega)]|rw [if_neg (by omega)]),rfl⟩
theorem cmpU32_any (a b:Int) (w:World):
 Calls Tryz.prog 112 #[.int .u32 a,.int .u32 b] w fun e w'=>e=.returned (.int .i64 (cmpI a b))∧w=w':=by
 have hc:=hid (show cmpI a b=if a<b then -1 else if b<a then 1 else 0 from rfl)
 by_cases h1:a<b
 ·go_enter Tryz.func112,Tryz.ntmps112
  go_wp2
  go_ret
  exact ⟨ret_int (by rw [hc.out,if_pos h1]),rfl⟩
 ·by_cases h2:b<a
  all_goals
   go_enter Tryz.func112,Tryz.ntmps112
   go_wp2
   go_ret
   exact ⟨ret_int (by rw [hc.out,if_neg (by omega)];first|rw [if_pos (by omega)]|rw [if_neg (by omega)]),rfl⟩
theorem compare_any (a0 a1:Option Addr) (c0 c1:Nat) (m n:Nat) (w:World) (h0:Ns .u32 w a0 c0 (limbs m)) (h1:Ns .u32 w a1 c1 (limbs n)):
 Calls Tryz.prog 73 #[.slice a0 (limbs m).length c0,.slice a1 (limbs n).length c1] w fun e w'=>e=.returned (.int .i64 (cmpI m n))∧ ∃nq,w'=w.drewN nq:=by
 have hc:=hid (show cmpI m n=if (m:Int)<n then -1 else if (n:Int)<m then 1 else 0 from rfl)
 obtain ⟨h01,h02,h03⟩:=h0
 obtain ⟨h11,h12,h13⟩:=h1
 unfold maxLen at h02 h12
 by_cases hl:(limbs m).length=(limbs n).length
 ·have hlb:(((limbs m).length:Int) !=((limbs n).length:Int))=false:=by rw [bne_eq_false_iff_eq];omega
  have hl1:(limbs m).length≤(limbs n).length:=by omega
  have hl2:(limbs n).length≤(limbs m).length:=by omega
  have HL:=hid hl
  clear hl
  go_enter Tryz.func73,Tryz.ntmps73
  go_wp2_with fail
  go_loopw [5] (fun i wr=> ∃i0:Int,i=.int .i64 i0∧ -1≤i0∧i0<(limbs m).length∧(limbs m).drop (i0+1).toNat=(limbs n).drop (i0+1).toNat∧ ∃nq,wr=w.drewN nq) (fun i _=>(intOf i+1).toNat)
  case atStart=>
   refine ⟨_,rfl,by omega,by omega,?_,0,rfl⟩
   rw [List.drop_eq_nil_iff.2 (by omega),List.drop_eq_nil_iff.2 (by omega)]
  case round=>
   obtain ⟨i0,rfl,hi1,hi2,hdr,nq,rfl⟩:=hrel
   by_cases hi:i0<0
   ·have heq:=hid (limbs_cmp_eq m n (by rw [show (i0+1).toNat=0 by omega] at hdr;exact hdr))
    clear hdr
    go_wp2_with fail
    go_ret
    refine ⟨ret_int ?_,nq,rfl⟩
    have:=heq.out
    rw [hc.out,if_neg (by omega),if_neg (by omega)]
   ·obtain ⟨j,rfl⟩:=Int.eq_ofNat_of_zero_le (show 0≤i0 by omega)
    rw [show ((j:Int)+1).toNat=j+1 by omega] at hdr
    obtain ⟨b0,o0,rfl,hc0⟩:=h03 (by omega)
    obtain ⟨b1,o1,rfl,hc1⟩:=h13 (by omega)
    have k0:=hc0 j (by omega)
    have k1:=hc1 j (by omega)
    clear hc0 hc1 h03 h13
    have HD:=hid hdr
    clear hdr
    have hj1:(j:Int)<((limbs n).length:Int):=by omega
    by_cases he:lb (limbs m) j=lb (limbs n) j
    ·have heb:(lb (limbs m) j !=lb (limbs n) j)=false:=by simpa using he
     have HE:=hid he
     clear he
     go_wp2_with fail
     go_quiet (fail)
     go_wp2_with fail
     go_roundw
     case rel=>exact ⟨(j:Int)-1,by go_num,by omega,by omega,by rw [show ((j:Int)-1+1).toNat=j by omega];exact drop_eq_step _ _ j (by omega) (by omega) HD.out HE.out,_,rfl⟩
     case measure=>simp [intOf]
    ·have heb:(lb (limbs m) j !=lb (limbs n) j)=true:=by simpa using he
     go_wp2_with fail
     go_quiet (fail)
     go_wp2_with fail
     go_quiet ((go_at_call 112;first|exact quiet_add_left (cmpU32_any _ _ _)|exact quiet_left (cmpU32_any _ _ _)))
     go_wp2_with fail
     go_ret
     refine ⟨ret_int ?_,_,by rw [World.drewN_drewN,World.drewN_drewN]⟩
     rw [hc.out]
     rcases Int.lt_or_gt_of_ne he with hlt|hgt
     ·have:=limbs_cmp_top m n j HL.out (by omega) HD.out hlt
      rw [if_pos (by omega)];unfold cmpI;rw [if_pos hlt]
     ·have:=limbs_cmp_top n m j HL.out.symm (by omega) HD.out.symm hgt
      rw [if_neg (by omega),if_pos (by omega)];unfold cmpI;rw [if_neg (by omega),if_pos hgt]
 ·have hlb:(((limbs m).length:Int) !=((limbs n).length:Int))=true:=by rw [bne_iff_ne];omega
  go_enter Tryz.func73,Tryz.ntmps73
  go_wp2_with (go_at_call 111;refine (cmpInt_any _ _ _).mono ?_;rintro e w' ⟨rfl,rfl⟩)
  go_ret
  refine ⟨ret_int ?_,0,rfl⟩
  rw [hc.out]
  rcases Nat.lt_or_gt_of_ne hl with hlt|hgt
  ·have:=limbs_cmp_len m n hlt
   rw [if_pos (by omega)];unfold cmpI;rw [if_pos (by omega)]
  ·have:=limbs_cmp_len n m hgt
   rw [if_neg (by omega),if_pos (by omega)];unfold cmpI;rw [if_neg (by omega),if_pos (by omega)]
end Go.Proofs.YtehhegbkahnhgaaGreatDoor
namespace Go.Ulp
theorem plus_step {m n c x y:Nat} (h:m+4294967296^n*c=x+y) (u v:Nat):
 m+4294967296^n*((c+u+v)%4294967296)+4294967296^(n+1)*((c+u+v)/4294967296)=(x+4294967296^n*u)+(y+4294967296^n*v):=by
 rw [Nat.pow_succ,Nat.mul_assoc,Nat.add_assoc,←Nat.mul_add,Nat.mod_add_div,Nat.mul_add,Nat.mul_add];omega
end Go.Ulp
namespace Go.Proofs.YtehhegbkahnhgaaGreatDoor
open Go.RowKit Go.Ulp
set_option maxHeartbeats 400000
set_option maxRecDepth 100000
theorem plus_core (aL aM:Option Addr) (cL cM:Nat) (m n:Nat) (w:World) (hL:Ns .u32 w aL cL (limbs m)) (hM:Ns .u32 w aM cM (limbs n)) (hs:(limbs m).length≤4294967296)
 (args:Array Value) (hargs:(args= #[.slice aL (limbs m).length cL,.slice aM (limbs n).length cM]∧(limbs n).length≤(limbs m).length∧decide ((limbs m).length<(limbs n).length)=false)∨(args= #[.slice aM (limbs n).length cM,.slice aL (limbs m).length cL]∧(limbs n).length≤(limbs m).length∧decide ((limbs n).length<(limbs m).length)=true)):
 Calls Tryz.prog 70 args w fun e w'=>RetN w (m+n) e w':=by
 have lL:=limbs_lim m
 have lM:=limbs_lim n
 obtain ⟨hL1,hL2,hL3⟩:=hL
 obtain ⟨hM1,hM2,hM3⟩:=hM
 unfold maxLen at hL2 hM2
 rcases hargs with ⟨rfl,hlen,hdl⟩|⟨rfl,hlen,hdl⟩
 all_goals
  go_enter Tryz.func70,Tryz.ntmps70
  go_wp2_with fail
  go_loopw [5,6,18] (fun o c i wr=> ∃(k cc:Nat) (Q:List Nat),k≤(limbs m).length∧i=.int .i64 k∧c=.int .u64 cc∧cc≤1∧Q.length=k∧Lim Q∧lval Q+4294967296^k*cc=lval ((limbs m).take k)+lval ((limbs n).take k)∧Own w.heap.size 106 .u32 wr o Q∧Below w.heap.size w wr) (fun _ _ i _=>(limbs m).length-(intOf i).toNat)
  case atStart=>exact ⟨0,0,[],by omega,rfl,rfl,by omega,rfl,AllLt.nil,by simp [lval,val],Own.nil,Below.refl _ _⟩
  case round=>
   obtain ⟨k,cc,Q,hk,rfl,rfl,hcc,hQ,lQ,hv,hown,hb⟩:=hrel
   have HQ:=hid hQ
   have HV:=hid hv
   clear hQ hv
   by_cases hlt:k<(limbs m).length
   ·obtain ⟨b0,o0,rfl,hc0⟩:=hL3 (by omega)
    obtain ⟨x,hx⟩: ∃x,x=(limbs m).getD k 0:=⟨_,rfl⟩
    have hx1:x<4294967296:=by rw [hx];exact lL.getD (by omega) k
    have hcell:wr.cell? ⟨b0,o0+k,none⟩=some (.int .u32 (x:Int)):=by
     have h1:=hc0 k hlt
     have h2:=hb.cell (p:=⟨b0,o0+k,none⟩) (World.block_lt_of_cell? w _ h1)
     rw [h2,h1,hx];rfl
    clear hc0 hL3
    have HX:=hid hx
    clear hx
    by_cases hlt2:k<(limbs n).length
    ·obtain ⟨b1,o1,rfl,hc1⟩:=hM3 (by omega)
     obtain ⟨y,hy⟩: ∃y,y=(limbs n).getD k 0:=⟨_,rfl⟩
     have hy1:y<4294967296:=by rw [hy];exact lM.getD (by omega) k
     have hcell1:wr.cell? ⟨b1,o1+k,none⟩=some (.int .u32 (y:Int)):=by
      have h1:=hc1 k hlt2
      have h2:=hb.cell (p:=⟨b1,o1+k,none⟩) (World.block_lt_of_cell? w _ h1)
      rw [h2,h1,hy];rfl
     clear hc1 hM3
     have HY:=hid hy
     clear hy
     go_wp2_with (at_builtin;refine wpList_push ei_u32 (by omega) rfl _ _ rfl w.heap.size Q ((cc+x+y)%4294967296) _ rfl (Own.alloc hown _) ⟨wr.heap.size,0,none⟩ rfl (cell_push _ _ _ _ _ (by omega)) (by rw [HQ.out];omega) (by simp;have:=hb.size;omega) ?_;intro v1 w1 hown1 hb1)
     go_roundw
     case rel=>exact ⟨k+1,(cc+x+y)/4294967296,Q++ [(cc+x+y)%4294967296],by omega,by go_num,by go_num,by omega,by rw [List.length_append,HQ.out];rfl,AllLt.append.2 ⟨lQ,AllLt.cons.2 ⟨Nat.mod_lt _ (by omega),AllLt.nil⟩⟩,by
      have:=plus_step HV.out x y
      unfold lval at *
      rw [val_snoc,HQ.out,val_take_succ _ _ _ hlt,val_take_succ _ _ _ hlt2,←HX.out,←HY.out];exact this,hown1,(hb.trans ((below_alloc wr _).mono hb.size)).trans hb1⟩
     case measure=>simp [intOf];omega
    ·have HY:=hid (show (limbs n).take (k+1)=(limbs n).take k by rw [List.take_of_length_le (by omega),List.take_of_length_le (by omega)])
     go_wp2_with (at_builtin;refine wpList_push ei_u32 (by omega) rfl _ _ rfl w.heap.size Q ((cc+x)%4294967296) _ rfl (Own.alloc hown _) ⟨wr.heap.size,0,none⟩ rfl (cell_push _ _ _ _ _ (by omega)) (by rw [HQ.out];omega) (by simp;have:=hb.size;omega) ?_;intro v1 w1 hown1 hb1)
     go_roundw
     case rel=>exact ⟨k+1,(cc+x)/4294967296,Q++ [(cc+x)%4294967296],by omega,by go_num,by go_num,by omega,by rw [List.length_append,HQ.out];rfl,AllLt.append.2 ⟨lQ,AllLt.cons.2 ⟨Nat.mod_lt _ (by omega),AllLt.nil⟩⟩,by
      have:=plus_step HV.out x 0
      unfold lval at *
      rw [val_snoc,HQ.out,val_take_succ _ _ _ hlt,HY.out,←HX.out];simpa using this,hown1,(hb.trans ((below_alloc wr _).mono hb.size)).trans hb1⟩
     case measure=>simp [intOf];omega
   ·have hke:k=(limbs m).length:=by omega
    have hfin:lval (Q++ [cc])=m+n:=by
     have:=HV.out
     rw [hke,List.take_of_length_le (Nat.le_refl _),List.take_of_length_le hlen,lval_limbs,lval_limbs,←hke] at this
     unfold lval at *
     rw [val_snoc,HQ.out];exact this
    have HF:=hid hfin
    clear hfin hke
    go_wp2_with (at_builtin;refine wpList_push ei_u32 (by omega) rfl _ _ rfl w.heap.size Q cc _ rfl (Own.alloc hown _) ⟨wr.heap.size,0,none⟩ rfl (cell_push _ _ _ _ _ (by omega)) (by rw [HQ.out];omega) (by simp;have:=hb.size;omega) ?_;intro v1 w1 hown1 hb1)
    obtain ⟨ao,cap,rfl,hN⟩:=hown1.ns
    go_wp2_with fail
    have lQ1:Lim (Q++ [cc]):=AllLt.append.2 ⟨lQ,AllLt.cons.2 ⟨by omega,AllLt.nil⟩⟩
    refine (norm_any _ _ _ _ hN lQ1).mono ?_
    rintro e w' ⟨rfl,rfl⟩
    have hN':=hN.norm lQ1
    rw [HF.out] at hN' ⊢
    go_wp2_with fail
    go_ret
    exact ⟨_,rfl,hN',(hb.trans ((below_alloc wr _).mono hb.size)).trans hb1⟩
end Go.Proofs.YtehhegbkahnhgaaGreatDoor
namespace Go.Ulp
theorem minus_step0 {m n q b k:Nat} (h:m+4294967296^k*b=q+n) (x y:Nat) (hxy:b+y≤x):
 (m+4294967296^k*x)+4294967296^(k+1)*0=(q+4294967296^k*(x-b-y))+(n+4294967296^k*y):=by
 obtain ⟨z,rfl⟩: ∃z,x=z+b+y:=⟨x-b-y,by omega⟩
 rw [show z+b+y-b-y=z by omega,Nat.mul_add,Nat.mul_add];omega
theorem minus_step1 {m n q b k:Nat} (h:m+4294967296^k*b=q+n) (x y:Nat) (hx:x<4294967296) (hy:y<4294967296) (hb:b≤1) (hxy:x<b+y):
 (m+4294967296^k*x)+4294967296^(k+1)*1=(q+4294967296^k*(x+4294967296-b-y))+(n+4294967296^k*y):=by
 obtain ⟨z,hz⟩: ∃z,x+4294967296=z+b+y:=⟨x+4294967296-b-y,by omega⟩
 have e:=congrArg (fun t=>4294967296^k*t) hz
 simp only [Nat.mul_add] at e
 rw [show x+4294967296-b-y=z by omega,Nat.pow_succ,Nat.mul_one];omega
theorem minus_end {m n q b k:Nat} (h:m+4294967296^k*b=q+n) (hb:b≤1) (hq:q<4294967296^k) (hn:n≤m):q=m-n:=by
 have:b=0∨b=1:=by omega
 rcases this with rfl|rfl
 ·omega
 ·rw [Nat.mul_one] at h;omega
end Go.Ulp
namespace Go.Proofs.YtehhegbkahnhgaaGreatDoor
open Go.RowKit Go.Ulp
set_option maxHeartbeats 400000
set_option maxRecDepth 100000
theorem plus_any (a0 a1:Option Addr) (c0 c1:Nat) (m n:Nat) (w:World) (h0:Ns .u32 w a0 c0 (limbs m)) (h1:Ns .u32 w a1 c1 (limbs n)) (hm:(limbs m).length≤4294967296) (hn:(limbs n).length≤4294967296):
 Calls Tryz.prog 70 #[.slice a0 (limbs m).length c0,.slice a1 (limbs n).length c1] w fun e w'=>RetN w (m+n) e w':=by
 by_cases h:(limbs m).length<(limbs n).length
 ·have:=plus_core a1 a0 c1 c0 n m w h1 h0 hn _ (.inr ⟨rfl,by omega,by simpa using h⟩)
  rwa [Nat.add_comm] at this
 ·exact plus_core a0 a1 c0 c1 m n w h0 h1 hm _ (.inl ⟨rfl,by omega,by simpa using h⟩)
theorem minus_any (aL aM:Option Addr) (cL cM:Nat) (m n:Nat) (w:World) (hL:Ns .u32 w aL cL (limbs m)) (hM:Ns .u32 w aM cM (limbs n)) (hs:(limbs m).length≤4294967296) (hnm:n≤m):
 Calls Tryz.prog 71 #[.slice aL (limbs m).length cL,.slice aM (limbs n).length cM] w fun e w'=>RetN w (m-n) e w':=by
 have lL:=limbs_lim m
 have lM:=limbs_lim n
 have hlen:(limbs n).length≤(limbs m).length:=digs_len_mono _ (by omega) hnm
 have HNM:=hid hnm
 clear hnm
 obtain ⟨hL1,hL2,hL3⟩:=hL
 obtain ⟨hM1,hM2,hM3⟩:=hM
 unfold maxLen at hL2 hM2
 go_enter Tryz.func71,Tryz.ntmps71
 go_wp2_with fail
 go_loopw [5,6,12] (fun o c i wr=> ∃(k bb:Nat) (Q:List Nat),k≤(limbs m).length∧i=.int .i64 k∧c=.int .i64 bb∧bb≤1∧Q.length=k∧Lim Q∧lval ((limbs m).take k)+4294967296^k*bb=lval Q+lval ((limbs n).take k)∧Own w.heap.size 106 .u32 wr o Q∧Below w.heap.size w wr) (fun _ _ i _=>(limbs m).length-(intOf i).toNat)
 case atStart=>exact ⟨0,0,[],by omega,rfl,rfl,by omega,rfl,AllLt.nil,by simp [lval,val],Own.nil,Below.refl _ _⟩
 case round=>
  obtain ⟨k,bb,Q,hk,rfl,rfl,hbb,hQ,lQ,hv,hown,hb⟩:=hrel
  have HQ:=hid hQ
  have HV:=hid hv
  clear hQ hv
  by_cases hlt:k<(limbs m).length
  ·obtain ⟨b0,o0,rfl,hc0⟩:=hL3 (by omega)
   obtain ⟨x,hx⟩: ∃x,x=(limbs m).getD k 0:=⟨_,rfl⟩
   have hx1:x<4294967296:=by rw [hx];exact lL.getD (by omega) k
   have hcell:wr.cell? ⟨b0,o0+k,none⟩=some (.int .u32 (x:Int)):=by
    have h1:=hc0 k hlt
    have h2:=hb.cell (p:=⟨b0,o0+k,none⟩) (World.block_lt_of_cell? w _ h1)
    rw [h2,h1,hx];rfl
   clear hc0 hL3
   have HX:=hid hx
   clear hx
   by_cases hlt2:k<(limbs n).length
   ·obtain ⟨b1,o1,rfl,hc1⟩:=hM3 (by omega)
    obtain ⟨y,hy⟩: ∃y,y=(limbs n).getD k 0:=⟨_,rfl⟩
    have hy1:y<4294967296:=by rw [hy];exact lM.getD (by omega) k
    have hcell1:wr.cell? ⟨b1,o1+k,none⟩=some (.int .u32 (y:Int)):=by
     have h1:=hc1 k hlt2
     have h2:=hb.cell (p:=⟨b1,o1+k,none⟩) (World.block_lt_of_cell? w _ h1)
     rw [h2,h1,hy];rfl
    clear hc1 hM3
    have HY:=hid hy
    clear hy
    by_cases hxy:x<bb+y
    ·go_wp2_with (at_builtin;refine wpList_push ei_u32 (by omega) rfl _ _ rfl w.heap.size Q (x+4294967296-bb-y) _ rfl (Own.alloc hown _) ⟨wr.heap.size,0,none⟩ rfl (cell_push _ _ _ _ _ (by omega)) (by rw [HQ.out];omega) (by simp;have:=hb.size;omega) ?_;intro v1 w1 hown1 hb1)
     go_roundw
     case rel=>exact ⟨k+1,1,Q++ [x+4294967296-bb-y],by omega,by go_num,by go_num,by omega,by rw [List.length_append,HQ.out];rfl,AllLt.append.2 ⟨lQ,AllLt.cons.2 ⟨by omega,AllLt.nil⟩⟩,by
      have:=minus_step1 HV.out x y hx1 hy1 hbb hxy
      unfold lval at *
      rw [val_snoc,HQ.out,val_take_succ _ _ _ hlt,val_take_succ _ _ _ hlt2,←HX.out,←HY.out];exact this,hown1,(hb.trans ((below_alloc wr _).mono hb.size)).trans hb1⟩
     case measure=>simp [intOf];omega
    ·go_wp2_with (at_builtin;refine wpList_push ei_u32 (by omega) rfl _ _ rfl w.heap.size Q (x-bb-y) _ rfl (Own.alloc hown _) ⟨wr.heap.size,0,none⟩ rfl (cell_push _ _ _ _ _ (by omega)) (by rw [HQ.out];omega) (by simp;have:=hb.size;omega) ?_;intro v1 w1 hown1 hb1)
     go_roundw
     case rel=>exact ⟨k+1,0,Q++ [x-bb-y],by omega,by go_num,by go_num,by omega,by rw [List.length_append,HQ.out];rfl,AllLt.append.2 ⟨lQ,AllLt.cons.2 ⟨by omega,AllLt.nil⟩⟩,by
      have:=minus_step0 HV.out x y (by omega)
      unfold lval at *
      rw [val_snoc,HQ.out,val_take_succ _ _ _ hlt,val_take_succ _ _ _ hlt2,←HX.out,←HY.out];exact this,hown1,(hb.trans ((below_alloc wr _).mono hb.size)).trans hb1⟩
     case measure=>simp [intOf];omega
   ·have HY:=hid (show (limbs n).take (k+1)=(limbs n).take k by rw [List.take_of_length_le (by omega),List.take_of_length_le (by omega)])
    by_cases hxy:x<bb
    ·go_wp2_with (at_builtin;refine wpList_push ei_u32 (by omega) rfl _ _ rfl w.heap.size Q (x+4294967296-bb) _ rfl (Own.alloc hown _) ⟨wr.heap.size,0,none⟩ rfl (cell_push _ _ _ _ _ (by omega)) (by rw [HQ.out];omega) (by simp;have:=hb.size;omega) ?_;intro v1 w1 hown1 hb1)
     go_roundw
     case rel=>exact ⟨k+1,1,Q++ [x+4294967296-bb],by omega,by go_num,by go_num,by omega,by rw [List.length_append,HQ.out];rfl,AllLt.append.2 ⟨lQ,AllLt.cons.2 ⟨by omega,AllLt.nil⟩⟩,by
      have:=minus_step1 HV.out x 0 hx1 (by omega) hbb (by omega)
      unfold lval at *
      rw [val_snoc,HQ.out,val_take_succ _ _ _ hlt,HY.out,←HX.out];simpa using this,hown1,(hb.trans ((below_alloc wr _).mono hb.size)).trans hb1⟩
     case measure=>simp [intOf];omega
    ·go_wp2_with (at_builtin;refine wpList_push ei_u32 (by omega) rfl _ _ rfl w.heap.size Q (x-bb) _ rfl (Own.alloc hown _) ⟨wr.heap.size,0,none⟩ rfl (cell_push _ _ _ _ _ (by omega)) (by rw [HQ.out];omega) (by simp;have:=hb.size;omega) ?_;intro v1 w1 hown1 hb1)
     go_roundw
     case rel=>exact ⟨k+1,0,Q++ [x-bb],by omega,by go_num,by go_num,by omega,by rw [List.length_append,HQ.out];rfl,AllLt.append.2 ⟨lQ,AllLt.cons.2 ⟨by omega,AllLt.nil⟩⟩,by
      have:=minus_step0 HV.out x 0 (by omega)
      unfold lval at *
      rw [val_snoc,HQ.out,val_take_succ _ _ _ hlt,HY.out,←HX.out];simpa using this,hown1,(hb.trans ((below_alloc wr _).mono hb.size)).trans hb1⟩
     case measure=>simp [intOf];omega
  ·have hke:k=(limbs m).length:=by omega
   have hfin:lval Q=m-n:=by
    have:=HV.out
    rw [hke,List.take_of_length_le (Nat.le_refl _),List.take_of_length_le hlen,lval_limbs,lval_limbs,←hke] at this
    exact minus_end this hbb (by have:=lval_lt Q lQ;rwa [HQ.out] at this) HNM.out
   have HF:=hid hfin
   clear hfin hke
   obtain ⟨ao,cap,rfl,hN⟩:=hown.ns
   go_wp2_with fail
   refine (norm_any _ _ _ _ hN lQ).mono ?_
   rintro e w' ⟨rfl,rfl⟩
   have hN':=hN.norm lQ
   rw [HF.out] at hN' ⊢
   go_wp2_with fail
   go_ret
   exact ⟨_,rfl,hN',hb⟩
end Go.Proofs.YtehhegbkahnhgaaGreatDoor
namespace Go.Ulp
open Go.RowKit
def zneg (x:Int):Bool:=decide (x<0)
def zl (x:Int):List Nat:=decs x.natAbs
def zof (neg:Bool) (n:Nat):Int:=if neg then -(n:Int) else n
def RetZ (t:TypeId) (w:World) (x:Int) (e:Ending) (w':World):Prop:=
 ∃ao cap,e=.returned (.agg #[.bool (zneg x),.slice ao (zl x).length cap])∧Nz t w' ao cap (zl x)∧Below w.heap.size w w'
def RetZA (t:TypeId) (ao:Option Addr) (w:World) (x:Int) (e:Ending) (w':World):Prop:=
 ∃cap,e=.returned (.agg #[.bool (zneg x),.slice ao (zl x).length cap])∧Nz t w' ao cap (zl x)∧Below w.heap.size w w'
def RetZF (t:TypeId) (w:World) (x:Int) (e:Ending) (w':World):Prop:=
 ∃ao cap,e=.returned (.agg #[.bool (zneg x),.slice ao (zl x).length cap])∧Nz t w' ao cap (zl x)∧Below w.heap.size w w'∧ ∀p,ao=some p→w.heap.size≤p.block
theorem RetZA.any {t:TypeId} {ao:Option Addr} {w:World} {x:Int} {e:Ending} {w':World} (h:RetZA t ao w x e w'):RetZ t w x e w':=by
 obtain ⟨cap,h1,h2,h3⟩:=h;exact ⟨ao,cap,h1,h2,h3⟩
theorem RetZF.any {t:TypeId} {w:World} {x:Int} {e:Ending} {w':World} (h:RetZF t w x e w'):RetZ t w x e w':=by
 obtain ⟨ao,cap,h1,h2,h3,_⟩:=h;exact ⟨ao,cap,h1,h2,h3⟩
def ZL (t:TypeId) (w:World) (g:Nat) (n:Bool) (v:Value):Prop:=
 w.cell? ⟨g,0,none⟩=some (.bool n)∧w.cell? ⟨g,1,none⟩=some v∧w.frozen? ⟨g,0,none⟩=false∧w.frozen? ⟨g,1,none⟩=false∧ElemIs w g t
theorem ZL.lt {t:TypeId} {w:World} {g:Nat} {n:Bool} {v:Value} (h:ZL t w g n v):g<w.heap.size:=h.2.2.2.2.lt
theorem ZL.belowB {t:TypeId} {B:Nat} {w w':World} {g:Nat} {n:Bool} {v:Value} (h:ZL t w g n v) (hb:Below B w w') (hB:g<B):ZL t w' g n v:=
 ⟨(hb.cell (p:=⟨g,0,none⟩) hB).trans h.1,(hb.cell (p:=⟨g,1,none⟩) hB).trans h.2.1,(hb.frozen (p:=⟨g,0,none⟩) hB).trans h.2.2.1,(hb.frozen (p:=⟨g,1,none⟩) hB).trans h.2.2.2.1,h.2.2.2.2.belowB hb hB⟩
theorem ZL.below {t:TypeId} {w w':World} {g:Nat} {n:Bool} {v:Value} (h:ZL t w g n v) (hb:Below w.heap.size w w'):ZL t w' g n v:=h.belowB hb h.lt
theorem ZL.alloc {t:TypeId} {w:World} {g:Nat} {n:Bool} {v:Value} (h:ZL t w g n v) (o:Obj):ZL t (w.alloc o) g n v:=h.below (below_alloc _ _)
theorem ZL.made {t:TypeId} {w:World} {g:Nat} {n:Bool} {v:Value} (hg:g=w.heap.size):ZL t (w.alloc (.cells #[.bool n,v] t)) g n v:=by
 subst hg
 refine ⟨?_,?_,?_,?_,ElemIs.made _ _ _⟩
 ·rw [World.cell?_alloc_at (hn:=rfl)];rfl
 ·rw [World.cell?_alloc_at (hn:=rfl)];rfl
 ·unfold World.frozen?;rw [heap_alloc_new];simp
 ·unfold World.frozen?;rw [heap_alloc_new];simp
theorem frozen_setCell (w:World) (a p:Addr) (u:Value):(w.setCell a u).frozen? p=w.frozen? p:=by
 by_cases h:a.block=p.block
 ·simp only [World.frozen?,World.setCell,Array.getElem?_modify]
  rw [if_pos h,←h]
  cases hx:w.heap[a.block]? with
  |none=>rfl
  |some o=>cases o<;>rfl
 ·exact World.frozen?_of_block (Below.heap_setCell _ _ _ _ (fun e=>h e.symm))
theorem ZL.far {t:TypeId} {w:World} {g:Nat} {n:Bool} {v:Value} (h:ZL t w g n v) (a:Addr) (u:Value) (hne:g≠a.block):ZL t (w.setCell a u) g n v:=by
 refine ⟨?_,?_,?_,?_,h.2.2.2.2.setCell _ _⟩
 ·rw [World.cell?_setCell_other (h:=fun e=>hne (by rw [e]))];exact h.1
 ·rw [World.cell?_setCell_other (h:=fun e=>hne (by rw [e]))];exact h.2.1
 ·rw [frozen_setCell];exact h.2.2.1
 ·rw [frozen_setCell];exact h.2.2.2.1
theorem ZL.set1 {t:TypeId} {w:World} {g:Nat} {n:Bool} {v:Value} (h:ZL t w g n v) (u:Value):ZL t (w.setCell ⟨g,1,none⟩ u) g n u:=by
 refine ⟨?_,?_,?_,?_,h.2.2.2.2.setCell _ _⟩
 ·rw [World.cell?_setCell_other (h:=by simp)];exact h.1
 ·exact World.cell?_setCell_same _ _ _ h.2.1
 ·rw [frozen_setCell];exact h.2.2.1
 ·rw [frozen_setCell];exact h.2.2.2.1
theorem ZL.set0 {t:TypeId} {w:World} {g:Nat} {n:Bool} {v:Value} (h:ZL t w g n v) (u:Bool):ZL t (w.setCell ⟨g,0,none⟩ (.bool u)) g u v:=by
 refine ⟨?_,?_,?_,?_,h.2.2.2.2.setCell _ _⟩
 ·exact World.cell?_setCell_same _ _ _ h.1
 ·rw [World.cell?_setCell_other (h:=by simp)];exact h.2.1
 ·rw [frozen_setCell];exact h.2.2.1
 ·rw [frozen_setCell];exact h.2.2.2.1
theorem zl_zof (neg:Bool) (n:Nat):zl (zof neg n)=decs n:=by unfold zl zof;cases neg<;>simp
theorem zneg_zof (neg:Bool) (n:Nat):zneg (zof neg n)=(neg&&decide (0<n)):=by
 unfold zneg zof;cases neg<;>simp
theorem dval_zl (x:Int):dval (zl x)=x.natAbs:=dval_decs _
theorem zl_dec (x:Int):Dec (zl x):=decs_lim _
theorem dval_cut0 (L:List Nat) (hz: ∀d∈L.drop 0,d=0):dval L=0:=by rw [List.drop_zero] at hz;exact val_zeros _ _ hz
theorem dval_pos (L:List Nat) (k:Nat) (hk:k<L.length) (h:L.getD k 0≠0):0<dval L:=by
 have e:=val_take_drop 10000 L k (by omega)
 rw [val_drop 10000 L k hk,Nat.mul_add] at e
 have:0<10000^k*L.getD k 0:=Nat.mul_pos (Nat.pow_pos (by omega)) (by omega)
 unfold dval;omega
end Go.Ulp
namespace Go.Proofs.YtehhegbkahnhgaaGreatDoor
open Go.RowKit Go.Ulp
set_option maxHeartbeats 400000
theorem trim_at (neg:Bool) (ao:Option Addr) (cap:Nat) (L:List Nat) (w:World) (h:Nz 3 w ao cap L) (hl:Dec L):
 Calls Tryz.prog 114 #[.agg #[.bool neg,.slice ao L.length cap]] w fun e w'=>RetZA 3 ao w (zof neg (dval L)) e w':=by
 have hz:=h
 obtain ⟨⟨h1,h2,h3⟩,h4⟩:=h
 have HZN:=hid hz
 clear h4 hz
 unfold maxLen at h2
 go_enter Tryz.func114,Tryz.ntmps114
 go_wp2_with fail
 go_loop [3] (fun v=> ∃k:Nat,k≤L.length∧v=.int .i64 k∧ ∀d∈L.drop k,d=0) (fun v=>(intOf v).toNat)
 case atStart=>exact ⟨L.length,Nat.le_refl _,rfl,by simp⟩
 case round=>
  obtain ⟨k,hk,rfl,hz⟩:=hrel
  have HZ:=hid hz
  clear hz
  cases k with
  |zero=>
   have e:=hid (dval_cut0 L HZ.out)
   cases neg
   all_goals
    go_wp2_with fail
    go_region
    go_wp2_with fail
    go_returns
    refine ⟨cap,?_,?_,?_⟩
    ·rw [e.out];rfl
    ·rw [e.out];exact Nz.nil' _ _ (by unfold maxLen;omega)
    ·exact ((below_alloc _ _).trans ((below_alloc _ _).mono (by simp))).drew
  |succ m=>
   obtain ⟨b,off,rfl,hc⟩:=h3 (by omega)
   have hcell:=hc m (by omega)
   have hb:b<w.heap.size:=World.block_lt_of_cell? w _ hcell
   by_cases hd:lb L m=0
   ·clear hc h3
    go_wp2
    go_round
    case rel=>exact ⟨m,by omega,by go_num,drop_zero_succ L m (by omega) (by unfold lb at hd;omega) HZ.out⟩
    case measure=>simp [intOf]
   ·have hd':(lb L m==0)=false:=by simpa using hd
    have hdn:L.getD m 0≠0:=by unfold lb at hd;omega
    have e:=hid (decs_cut L hl (m+1) HZ.out (trim_take L m (by omega) hdn))
    have hpos:=hid (dval_pos L m (by omega) hdn)
    have hN:Nz 3 w (some ⟨b,off,none⟩) cap (L.take (m+1)):=HZN.out.take (m+1) cap hk (by omega) (Nat.le_refl _)
    have hT:=hid (show (L.take (m+1)).length=m+1 by rw [List.length_take,Nat.min_eq_left hk])
    clear hdn hc h3
    cases neg
    all_goals
     go_wp2_with fail
     go_region
     go_wp2_with fail
     go_returns
     refine ⟨cap,?_,?_,?_⟩
     rotate_left
     ·rw [zl_zof,e.out];exact hN.below (((below_alloc _ _).trans ((below_alloc _ _).mono (by simp))).drew)
     ·exact ((below_alloc _ _).trans ((below_alloc _ _).mono (by simp))).drew
     ·rw [zl_zof,e.out,zneg_zof,hT.out,decide_eq_true hpos.out];rfl
theorem trim_any (neg:Bool) (ao:Option Addr) (cap:Nat) (L:List Nat) (w:World) (h:Nz 3 w ao cap L) (hl:Dec L):
 Calls Tryz.prog 114 #[.agg #[.bool neg,.slice ao L.length cap]] w fun e w'=>RetZ 3 w (zof neg (dval L)) e w':=
 (trim_at neg ao cap L w h hl).mono fun _ _ h=>h.any
end Go.Proofs.YtehhegbkahnhgaaGreatDoor
namespace Go.Ulp
open Go.RowKit
theorem decs_cmp_len (m n:Nat) (h:(decs m).length<(decs n).length):m<n:=by
 have:=val_lt_of_len 10000 (by omega) _ _ (decs_lim m) (decs_trim n) h
 rwa [show val 10000 (decs m)=m from dval_decs m,show val 10000 (decs n)=n from dval_decs n] at this
theorem decs_cmp_top (m n k:Nat) (hlen:(decs m).length=(decs n).length) (hk:k<(decs m).length) (heq:(decs m).drop (k+1)=(decs n).drop (k+1)) (h:lb (decs m) k<lb (decs n) k):m<n:=by
 have:=val_lt_of_top 10000 _ _ k (decs_lim m) hlen hk heq (by unfold lb at h;omega)
 rwa [show val 10000 (decs m)=m from dval_decs m,show val 10000 (decs n)=n from dval_decs n] at this
theorem decs_cmp_eq (m n:Nat) (heq:(decs m).drop 0=(decs n).drop 0):m=n:=by
 simp only [List.drop_zero] at heq
 rw [←dval_decs m,heq,dval_decs]
theorem cmpI_neg (x y:Int) (hx:x<0) (hy:y<0):cmpI x y= -(cmpI (x.natAbs:Int) (y.natAbs:Int)):=by unfold cmpI;split<;>split<;>(try split)<;>omega
theorem cmpI_pos (x y:Int) (hx:0≤x) (hy:0≤y):cmpI x y=cmpI (x.natAbs:Int) (y.natAbs:Int):=by unfold cmpI;split<;>split<;>(try split)<;>omega
theorem cmpI_bd (x y:Int): -1≤cmpI x y∧cmpI x y≤1:=by unfold cmpI;split<;>(try split)<;>omega
end Go.Ulp
namespace Go.Proofs.YtehhegbkahnhgaaGreatDoor
open Go.RowKit Go.Ulp
set_option maxHeartbeats 400000
theorem size_any (a0 a1:Option Addr) (c0 c1:Nat) (m n:Nat) (w:World) (h0:Ns .i64 w a0 c0 (decs m)) (h1:Ns .i64 w a1 c1 (decs n)):
 Calls Tryz.prog 113 #[.slice a0 (decs m).length c0,.slice a1 (decs n).length c1] w fun e w'=>e=.returned (.int .i64 (cmpI m n))∧ ∃nq,w'=w.drewN nq:=by
 have hc:=hid (show cmpI m n=if (m:Int)<n then -1 else if (n:Int)<m then 1 else 0 from rfl)
 obtain ⟨h01,h02,h03⟩:=h0
 obtain ⟨h11,h12,h13⟩:=h1
 unfold maxLen at h02 h12
 by_cases hl:(decs m).length=(decs n).length
 ·have hlb:(((decs m).length:Int) !=((decs n).length:Int))=false:=by rw [bne_eq_false_iff_eq];omega
  have hl1:(decs m).length≤(decs n).length:=by omega
  have hl2:(decs n).length≤(decs m).length:=by omega
  have HL:=hid hl
  clear hl
  go_enter Tryz.func113,Tryz.ntmps113
  go_wp2_with fail
  go_loopw [5] (fun i wr=> ∃i0:Int,i=.int .i64 i0∧ -1≤i0∧i0<(decs m).length∧(decs m).drop (i0+1).toNat=(decs n).drop (i0+1).toNat∧ ∃nq,wr=w.drewN nq) (fun i _=>(intOf i+1).toNat)
  case atStart=>
   refine ⟨_,rfl,by omega,by omega,?_,0,rfl⟩
   rw [List.drop_eq_nil_iff.2 (by omega),List.drop_eq_nil_iff.2 (by omega)]
  case round=>
   obtain ⟨i0,rfl,hi1,hi2,hdr,nq,rfl⟩:=hrel
   by_cases hi:i0<0
   ·have heq:=hid (decs_cmp_eq m n (by rw [show (i0+1).toNat=0 by omega] at hdr;exact hdr))
    clear hdr
    go_wp2_with fail
    go_ret
    refine ⟨ret_int ?_,nq,rfl⟩
    have:=heq.out
    rw [hc.out,if_neg (by omega),if_neg (by omega)]
   ·obtain ⟨j,rfl⟩:=Int.eq_ofNat_of_zero_le (show 0≤i0 by omega)
    rw [show ((j:Int)+1).toNat=j+1 by omega] at hdr
    obtain ⟨b0,o0,rfl,hc0⟩:=h03 (by omega)
    obtain ⟨b1,o1,rfl,hc1⟩:=h13 (by omega)
    have k0:=hc0 j (by omega)
    have k1:=hc1 j (by omega)
    have hj1:(j:Int)<((decs n).length:Int):=by omega
    clear hc0 hc1 h03 h13
    have HD:=hid hdr
    clear hdr
    rcases Int.lt_trichotomy (lb (decs m) j) (lb (decs n) j) with hlt|he|hgt
    ·go_wp2_with fail
     go_quiet (fail)
     go_wp2_with fail
     go_ret
     refine ⟨ret_int ?_,_,by rw [World.drewN_drewN]⟩
     have:=decs_cmp_top m n j HL.out (by omega) HD.out hlt
     rw [hc.out,if_pos (by omega)]
    ·have he1: ¬lb (decs m) j<lb (decs n) j:=by omega
     have he2: ¬lb (decs n) j<lb (decs m) j:=by omega
     have HE:=hid he
     clear he
     go_wp2_with fail
     go_quiet (fail)
     go_wp2_with fail
     go_quiet (fail)
     go_wp2_with fail
     go_roundw
     case rel=>exact ⟨(j:Int)-1,by go_num,by omega,by omega,by rw [show ((j:Int)-1+1).toNat=j by omega];exact drop_eq_step _ _ j (by omega) (by omega) HD.out HE.out,_,by first|rfl|(rw [World.drewN_drewN];done)|(rw [World.drewN_drewN,World.drewN_drewN];done)⟩
     case measure=>simp [intOf]
    ·have he1: ¬lb (decs m) j<lb (decs n) j:=by omega
     go_wp2_with fail
     go_quiet (fail)
     go_wp2_with fail
     go_quiet (fail)
     go_wp2_with fail
     go_ret
     refine ⟨ret_int ?_,_,by first|rfl|(rw [World.drewN_drewN];done)|(rw [World.drewN_drewN,World.drewN_drewN];done)⟩
     have:=decs_cmp_top n m j HL.out.symm (by omega) HD.out.symm hgt
     rw [hc.out,if_neg (by omega),if_pos (by omega)]
 ·have hlb:(((decs m).length:Int) !=((decs n).length:Int))=true:=by rw [bne_iff_ne];omega
  rcases Nat.lt_or_gt_of_ne hl with hlt|hgt
  ·go_enter Tryz.func113,Tryz.ntmps113
   go_wp2_with fail
   go_ret
   refine ⟨ret_int ?_,0,rfl⟩
   have:=decs_cmp_len m n hlt
   rw [hc.out,if_pos (by omega)]
  ·go_enter Tryz.func113,Tryz.ntmps113
   go_wp2_with fail
   go_ret
   refine ⟨ret_int ?_,0,rfl⟩
   have:=decs_cmp_len n m hgt
   rw [hc.out,if_neg (by omega),if_pos (by omega)]
theorem zcmp_any (a0 a1:Option Addr) (c0 c1:Nat) (x y:Int) (w:World) (h0:Nz 3 w a0 c0 (zl x)) (h1:Nz 3 w a1 c1 (zl y)):
 Calls Tryz.prog 80 #[.agg #[.bool (zneg x),.slice a0 (zl x).length c0],.agg #[.bool (zneg y),.slice a1 (zl y).length c1]] w fun e w'=>e=.returned (.int .i64 (cmpI x y))∧Below w.heap.size w w':=by
 have hbd:=cmpI_bd (x.natAbs:Int) (y.natAbs:Int)
 by_cases hx:x<0<;>by_cases hy:y<0
 ·have ex:zneg x=true:=by simpa [zneg] using hx
  have ey:zneg y=true:=by simpa [zneg] using hy
  have E:=hid (cmpI_neg x y hx hy)
  go_enter Tryz.func80,Tryz.ntmps80
  go_wp2_with (go_at_call 113;refine (size_any _ _ _ _ _ _ _ (h0.below (by go_grown)).ns (h1.below (by go_grown)).ns).mono ?_;rintro e w' ⟨rfl,nq,rfl⟩)
  go_ret
  exact ⟨ret_int (by rw [E.out]),below_drewN (by go_grown) _⟩
 ·have ex:zneg x=true:=by simpa [zneg] using hx
  have ey:zneg y=false:=by simpa [zneg] using hy
  go_enter Tryz.func80,Tryz.ntmps80
  go_wp2_with fail
  go_ret
  exact ⟨ret_int (by unfold cmpI;rw [if_pos (by omega)]),by go_grown⟩
 ·have ex:zneg x=false:=by simpa [zneg] using hx
  have ey:zneg y=true:=by simpa [zneg] using hy
  go_enter Tryz.func80,Tryz.ntmps80
  go_wp2_with fail
  go_ret
  exact ⟨ret_int (by unfold cmpI;rw [if_neg (by omega),if_pos (by omega)]),by go_grown⟩
 ·have ex:zneg x=false:=by simpa [zneg] using hx
  have ey:zneg y=false:=by simpa [zneg] using hy
  have E:=hid (cmpI_pos x y (by omega) (by omega))
  go_enter Tryz.func80,Tryz.ntmps80
  go_wp2_with (go_at_call 113;refine (size_any _ _ _ _ _ _ _ (h0.below (by go_grown)).ns (h1.below (by go_grown)).ns).mono ?_;rintro e w' ⟨rfl,nq,rfl⟩)
  go_ret
  exact ⟨ret_int (by rw [E.out]),below_drewN (by go_grown) _⟩
theorem _root_.Go.Ulp.RetZ.pre {t:TypeId} {w w1:World} {x:Int} {e:Ending} {w':World} (h:RetZ t w1 x e w') (hb:Below w.heap.size w w1):RetZ t w x e w':=by
 obtain ⟨ao,cap,h1,h2,h3⟩:=h
 exact ⟨ao,cap,h1,h2,below_trans hb h3⟩
theorem zneg_any (a0:Option Addr) (c0:Nat) (x:Int) (w:World) (h0:Nz 3 w a0 c0 (zl x)):
 Calls Tryz.prog 78 #[.agg #[.bool (zneg x),.slice a0 (zl x).length c0]] w fun e w'=>RetZ 3 w (-x) e w':=by
 have E:=hid (show zof (!zneg x) (dval (zl x))= -x by rw [dval_zl];unfold zof zneg;by_cases h:x<0<;>simp [h]<;>omega)
 go_enter Tryz.func78,Tryz.ntmps78
 go_wp2_with fail
 refine (trim_any _ _ _ _ _ (h0.below (by go_grown)) (zl_dec x)).mono ?_
 rw [E.out]
 rintro e w' ⟨ao,cap,rfl,hN,hb⟩
 have hs:ElemIs w' (w.heap.size+1) 47:=(ElemIs.made' _ _ _ (by simp)).below hb
 have k0:=(bcell hb).1 (w.heap.size+1) 0 (by simp)
 have k1:=(bcell hb).1 (w.heap.size+1) 1 (by simp)
 have f0:=(bcell hb).2 (w.heap.size+1) 0 (by simp)
 have f1:=(bcell hb).2 (w.heap.size+1) 1 (by simp)
 go_wp2_with fail
 refine bodyPost_ret (by simp [results,Tryz.results78,go_sem,k0,k1];try rfl) rfl ?_
 exact ⟨_,_,rfl,(hN.setCell hs (by decide) _ _).setCell (hs.setCell _ _) (by decide) _ _,((below_trans (by go_grown) hb).setCell (by simp) _).setCell (by simp) _⟩
theorem zabs_any (a0:Option Addr) (c0:Nat) (x:Int) (w:World) (h0:Nz 3 w a0 c0 (zl x)):
 Calls Tryz.prog 81 #[.agg #[.bool (zneg x),.slice a0 (zl x).length c0]] w fun e w'=>RetZ 3 w (x.natAbs:Int) e w':=by
 have E:=hid (show zl (x.natAbs:Int)=zl x by unfold zl;rw [Int.natAbs_natCast])
 have E2:=hid (show zneg (x.natAbs:Int)=false by unfold zneg;simp)
 go_enter Tryz.func81,Tryz.ntmps81
 go_wp2_with fail
 refine bodyPost_ret (by simp [results,Tryz.results81,go_sem];try rfl) rfl ?_
 refine ⟨a0,c0,?_,?_,by go_grown⟩
 ·rw [E.out,E2.out]
 ·rw [E.out];exact h0.below (by go_grown)
end Go.Proofs.YtehhegbkahnhgaaGreatDoor
