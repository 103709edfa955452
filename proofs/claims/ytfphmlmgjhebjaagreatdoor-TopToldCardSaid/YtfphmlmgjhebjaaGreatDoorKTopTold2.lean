/- TopTold: what the proof leans on, part 2 (Float Nat3). -/
import Derived.Test.YtfphmlmgjhebjaaGreatDoorRows
import Derived.Test.YtfphmlmgjhebjaaGreatDoorKTopTold1
set_option linter.unusedVariables false
set_option linter.unusedSimpArgs false
namespace Go.Ulp
def expOf (x:Int):Int:=x/4503599627370496%2048
def fracOf (x:Int):Int:=x%4503599627370496
def negB (x:Int):Bool:=decide (9223372036854775808≤x)
def classOf (x:Int):Int:=if expOf x=2047 then (if 0<fracOf x then 5 else 4) else if 0<expOf x then 3 else if 0<fracOf x then 2 else 1
def rankOf (x:Int):Int:=if 9223372036854775808≤x then -(x%9223372036854775808) else x%9223372036854775808
def ranked (n:Int):Int:=if n<0 then 9223372036854775808+ -n else n
def absOf (x:Int):Int:=x%9223372036854775808
def hasVal (x:Int):Bool:=decide (x%9223372036854775808<9218868437227405312)
theorem expOf_bd (x:Int):0≤expOf x∧expOf x≤2047:=by unfold expOf;omega
theorem fracOf_bd (x:Int):0≤fracOf x∧fracOf x<4503599627370496:=by unfold fracOf;omega
theorem class_bd (x:Int):1≤classOf x∧classOf x≤5:=by unfold classOf;omega
theorem class_nan (x:Int) (h0:0≤x) (h1:x<18446744073709551616):classOf x=5↔9218868437227405312<absOf x:=by
 unfold classOf absOf;split
 ·rename_i h;split
  ·rename_i h2;unfold expOf at h;unfold fracOf at h2;simp;omega
  ·rename_i h2;unfold expOf at h;unfold fracOf at h2;simp;omega
 ·rename_i h;unfold expOf at h;constructor
  ·intro h2;split at h2<;>(try split at h2)<;>omega
  ·intro h2;omega
theorem class_val (x:Int) (h0:0≤x) (h1:x<18446744073709551616):4≤classOf x↔9218868437227405312≤absOf x:=by
 unfold classOf absOf;split
 ·rename_i h;unfold expOf at h;constructor
  ·intro _;omega
  ·intro _;split<;>omega
 ·rename_i h;unfold expOf at h;constructor
  ·intro h2;split at h2<;>(try split at h2)<;>omega
  ·intro h2;omega
theorem rank_abs (x:Int) (h0:0≤x) (h1:x<18446744073709551616):rankOf x=if negB x then -absOf x else absOf x:=by
 unfold rankOf negB absOf;split<;>rename_i h
 ·rw [if_pos (by simpa using h)]
 ·rw [if_neg (by simpa using h)]
end Go.Ulp
namespace Go.Proofs.YtfphmlmgjhebjaaGreatDoor
open Go.RowKit Go.Ulp
set_option maxHeartbeats 400000
theorem parts_any (x:Int) (h0:0≤x) (h1:x<18446744073709551616) (w:World):
 Calls Tryz.prog 87 #[.int .u64 x] w fun e w'=>e=.returned (.tuple #[.bool (negB x),.int .i64 (expOf x),.int .u64 (fracOf x)])∧w=w':=by
 have e1:=and_2047 (x/4503599627370496) (by omega) (by omega)
 have e2:=and_frac x h0 h1
 have E1:=hid e1
 have E2:=hid e2
 clear e1 e2
 go_enter Tryz.func87,Tryz.ntmps87
 go_wp2_with fail
 go_ret3
 refine ⟨?_,rfl⟩
 simp only [Array.getD,E1.out,E2.out]
 have:(x/9223372036854775808==1)=negB x:=by unfold negB;rw [Bool.eq_iff_iff];simp;omega
 simp [this,expOf,fracOf]
 rw [IntWalk.wrap64_in _ (by omega)]
theorem class_any (x:Int) (h0:0≤x) (h1:x<18446744073709551616) (w:World):
 Calls Tryz.prog 33 #[.int .u64 x] w fun e w'=>e=.returned (.int .i64 (classOf x))∧w=w':=by
 have b1:=expOf_bd x
 have b2:=fracOf_bd x
 by_cases c1:expOf x=0<;>by_cases c2:fracOf x=0<;>by_cases c3:expOf x=2047<;>try omega
 all_goals
  have hc:classOf x=classOf x:=rfl
  conv at hc=>rhs;unfold classOf
  simp only [c1,c2,c3] at hc
  have HC:=hid hc
  clear hc
  go_enter Tryz.func33,Tryz.ntmps33
  go_wp2_with (go_at_call 87;refine (parts_any x h0 h1 _).mono ?_;rintro e w' ⟨rfl,rfl⟩)
  go_ret
  refine ⟨ret_int ?_,rfl⟩
  rw [HC.out]
  simp
  try omega
theorem abs_any (x:Int) (h0:0≤x) (h1:x<18446744073709551616) (w:World):
 Calls Tryz.prog 69 #[.int .u64 x] w fun e w'=>e=.returned (.int .u64 (absOf x))∧w=w':=by
 have E:=hid (andNot_sign x h0 h1)
 go_enter Tryz.func69,Tryz.ntmps69
 go_wp2_with fail
 go_ret
 exact ⟨ret_int E.out,rfl⟩
theorem hasValue_any (x:Int) (h0:0≤x) (h1:x<18446744073709551616) (w:World):
 Calls Tryz.prog 47 #[.int .u64 x] w fun e w'=>e=.returned (.bool (hasVal x))∧w=w':=by
 go_enter Tryz.func47,Tryz.ntmps47
 go_wp2_with (go_at_call 69;refine (abs_any x h0 h1 _).mono ?_;rintro e w' ⟨rfl,rfl⟩)
 go_ret
 exact ⟨ret_bool (by simp only [hasVal,absOf];rfl),rfl⟩
theorem ei_u32:ElemInfo Tryz.prog 65 181 .u32 4:=ElemInfo.mk Tryz.underlying65 (by kernel_rfl)
theorem norm_any (ao:Option Addr) (cap:Nat) (L:List Nat) (w:World) (h:Ns .u32 w ao cap L) (hl:Lim L):
 Calls Tryz.prog 174 #[.slice ao L.length cap] w fun e w'=>e=.returned (.slice ao (limbs (lval L)).length (limbs (lval L)).length)∧w=w':=by
 obtain ⟨h1,h2,h3⟩:=h
 unfold maxLen at h2
 go_enter Tryz.func174,Tryz.ntmps174
 go_wp2_with fail
 go_loop [0] (fun v=> ∃k:Nat,k≤L.length∧v=.slice ao k cap∧ ∀d∈L.drop k,d=0) (fun v=>match v with| .slice _ k _=>k|_=>0)
 case atStart=>exact ⟨L.length,Nat.le_refl _,rfl,by simp⟩
 case round=>
  obtain ⟨k,hk,rfl,hz⟩:=hrel
  have HZ:=hid hz
  clear hz
  cases k with
  |zero=>
   have e:=hid (limbs_cut L hl 0 HZ.out (fun h=>by simp at h))
   go_wp2
   go_ret
   refine ⟨?_,rfl⟩
   rw [e.out];rfl
  |succ m=>
   obtain ⟨b,off,rfl,hc⟩:=h3 (by omega)
   have hcell:=hc m (by omega)
   clear hc h3
   by_cases hd:lb L m=0
   ·go_wp2
    go_round
    case rel=>exact ⟨m,by omega,by go_num,drop_zero_succ L m (by omega) (by unfold lb at hd;omega) HZ.out⟩
    case measure=>simp
   ·have hd':(lb L m==0)=false:=by simpa using hd
    have hdn:L.getD m 0≠0:=by unfold lb at hd;omega
    have e:=hid (limbs_cut L hl (m+1) HZ.out (trim_take L m (by omega) hdn))
    clear hdn
    go_wp2
    go_ret
    refine ⟨?_,rfl⟩
    rw [e.out,List.length_take,Nat.min_eq_left (by omega)]
    rfl
theorem natOf_any (n:Nat) (hn:n<18446744073709551616) (w:World):
 Calls Tryz.prog 95 #[.int .u64 (n:Int)] w fun e w'=>RetN w n e w':=by
 have hl:Lim [n%4294967296,n/4294967296]:=AllLt.cons.2 ⟨by omega,AllLt.cons.2 ⟨by omega,AllLt.nil⟩⟩
 have hv:lval [n%4294967296,n/4294967296]=n:=by unfold lval;simp only [val];omega
 have hN:Ns .u32 (w.alloc (.cells #[.int .u32 ((n:Int)%4294967296),.int .u32 ((n:Int)/4294967296)] 181)) (some ⟨w.heap.size,0,none⟩) 2 [n%4294967296,n/4294967296]:=by
  refine ⟨by simp,by unfold maxLen;omega,fun _=>⟨_,_,rfl,fun i hi=>?_⟩⟩
  match i,hi with
  |0,_=>rw [World.cell?_alloc_at (hn:=rfl)];simp [lb]
  |1,_=>rw [World.cell?_alloc_at (hn:=rfl)];simp [lb]
 have hN':=hN.norm hl
 rw [hv] at hN'
 have HV:=hid hv
 clear hv
 go_enter Tryz.func95,Tryz.ntmps95
 go_wp2_with fail
 refine (norm_any _ 2 _ _ hN hl).mono ?_;rintro e w' ⟨rfl,rfl⟩
 rw [HV.out]
 go_wp2_with fail
 go_ret
 exact ⟨_,rfl,hN',below_alloc _ _⟩
theorem cmpInt_any (a b:Int) (w:World):
 Calls Tryz.prog 234 #[.int .i64 a,.int .i64 b] w fun e w'=>e=.returned (.int .i64 (cmpI a b))∧w=w':=by
 have hc:=hid (show cmpI a b=if a<b then -1 else if b<a then 1 else 0 from rfl)
 by_cases h1:a<b
 ·go_enter Tryz.func234,Tryz.ntmps234
  go_wp2
  go_ret
  exact ⟨ret_int (by rw [hc.out,if_pos h1]),rfl⟩
 ·by_cases h2:b<a
  all_goals
   go_enter Tryz.func234,Tryz.ntmps234
   go_wp2
   go_ret
   exact ⟨ret_int (by rw [hc.out,if_neg (by omega)];first|rw [if_pos (by omega)]|rw [if_neg (by omega)]),rfl⟩
theorem cmpU32_any (a b:Int) (w:World):
 Calls Tryz.prog 241 #[.int .u32 a,.int .u32 b] w fun e w'=>e=.returned (.int .i64 (cmpI a b))∧w=w':=by
 have hc:=hid (show cmpI a b=if a<b then -1 else if b<a then 1 else 0 from rfl)
 by_cases h1:a<b
 ·go_enter Tryz.func241,Tryz.ntmps241
  go_wp2
  go_ret
  exact ⟨ret_int (by rw [hc.out,if_pos h1]),rfl⟩
 ·by_cases h2:b<a
  all_goals
   go_enter Tryz.func241,Tryz.ntmps241
   go_wp2
   go_ret
   exact ⟨ret_int (by rw [hc.out,if_neg (by omega)];first|rw [if_pos (by omega)]|rw [if_neg (by omega)]),rfl⟩
theorem compare_any (a0 a1:Option Addr) (c0 c1:Nat) (m n:Nat) (w:World) (h0:Ns .u32 w a0 c0 (limbs m)) (h1:Ns .u32 w a1 c1 (limbs n)):
 Calls Tryz.prog 210 #[.slice a0 (limbs m).length c0,.slice a1 (limbs n).length c1] w fun e w'=>e=.returned (.int .i64 (cmpI m n))∧ ∃nq,w'=w.drewN nq:=by
 have hc:=hid (show cmpI m n=if (m:Int)<n then -1 else if (n:Int)<m then 1 else 0 from rfl)
 obtain ⟨h01,h02,h03⟩:=h0
 obtain ⟨h11,h12,h13⟩:=h1
 unfold maxLen at h02 h12
 by_cases hl:(limbs m).length=(limbs n).length
 ·have hlb:(((limbs m).length:Int) !=((limbs n).length:Int))=false:=by rw [bne_eq_false_iff_eq];omega
  have hl1:(limbs m).length≤(limbs n).length:=by omega
  have hl2:(limbs n).length≤(limbs m).length:=by omega
  have HL:=hid hl
  clear hl
  go_enter Tryz.func210,Tryz.ntmps210
  go_wp2_with fail
  go_loopw [5] (fun i wr=> ∃i0:Int,i=.int .i64 i0∧ -1≤i0∧i0<(limbs m).length∧(limbs m).drop (i0+1).toNat=(limbs n).drop (i0+1).toNat∧ ∃nq,wr=w.drewN nq) (fun i _=>(intOf i+1).toNat)
  case atStart=>
   refine ⟨_,rfl,by omega,by omega,?_,0,rfl⟩
   rw [List.drop_eq_nil_iff.2 (by omega),List.drop_eq_nil_iff.2 (by omega)]
  case round=>
   obtain ⟨i0,rfl,hi1,hi2,hdr,nq,rfl⟩:=hrel
   by_cases hi:i0<0
   ·have heq:=hid (limbs_cmp_eq m n (by rw [show (i0+1).toNat=0 by omega] at hdr;exact hdr))
    clear hdr
    go_wp2_with fail
    go_ret
    refine ⟨ret_int ?_,nq,rfl⟩
    have:=heq.out
    rw [hc.out,if_neg (by omega),if_neg (by omega)]
   ·obtain ⟨j,rfl⟩:=Int.eq_ofNat_of_zero_le (show 0≤i0 by omega)
    rw [show ((j:Int)+1).toNat=j+1 by omega] at hdr
    obtain ⟨b0,o0,rfl,hc0⟩:=h03 (by omega)
    obtain ⟨b1,o1,rfl,hc1⟩:=h13 (by omega)
    have k0:=hc0 j (by omega)
    have k1:=hc1 j (by omega)
    clear hc0 hc1 h03 h13
    have HD:=hid hdr
    clear hdr
    have hj1:(j:Int)<((limbs n).length:Int):=by omega
    by_cases he:lb (limbs m) j=lb (limbs n) j
    ·have heb:(lb (limbs m) j !=lb (limbs n) j)=false:=by simpa using he
     have HE:=hid he
     clear he
     go_wp2_with fail
     go_quiet (fail)
     go_wp2_with fail
     go_roundw
     case rel=>exact ⟨(j:Int)-1,by go_num,by omega,by omega,by rw [show ((j:Int)-1+1).toNat=j by omega];exact drop_eq_step _ _ j (by omega) (by omega) HD.out HE.out,_,rfl⟩
     case measure=>simp [intOf]
    ·have heb:(lb (limbs m) j !=lb (limbs n) j)=true:=by simpa using he
     go_wp2_with fail
     go_quiet (fail)
     go_wp2_with fail
     go_quiet ((go_at_call 241;first|exact quiet_add_left (cmpU32_any _ _ _)|exact quiet_left (cmpU32_any _ _ _)))
     go_wp2_with fail
     go_ret
     refine ⟨ret_int ?_,_,by rw [World.drewN_drewN,World.drewN_drewN]⟩
     rw [hc.out]
     rcases Int.lt_or_gt_of_ne he with hlt|hgt
     ·have:=limbs_cmp_top m n j HL.out (by omega) HD.out hlt
      rw [if_pos (by omega)];unfold cmpI;rw [if_pos hlt]
     ·have:=limbs_cmp_top n m j HL.out.symm (by omega) HD.out.symm hgt
      rw [if_neg (by omega),if_pos (by omega)];unfold cmpI;rw [if_neg (by omega),if_pos hgt]
 ·have hlb:(((limbs m).length:Int) !=((limbs n).length:Int))=true:=by rw [bne_iff_ne];omega
  go_enter Tryz.func210,Tryz.ntmps210
  go_wp2_with (go_at_call 234;refine (cmpInt_any _ _ _).mono ?_;rintro e w' ⟨rfl,rfl⟩)
  go_ret
  refine ⟨ret_int ?_,0,rfl⟩
  rw [hc.out]
  rcases Nat.lt_or_gt_of_ne hl with hlt|hgt
  ·have:=limbs_cmp_len m n hlt
   rw [if_pos (by omega)];unfold cmpI;rw [if_pos (by omega)]
  ·have:=limbs_cmp_len n m hgt
   rw [if_neg (by omega),if_pos (by omega)];unfold cmpI;rw [if_neg (by omega),if_pos (by omega)]
end Go.Proofs.YtfphmlmgjhebjaaGreatDoor
namespace Go.Ulp
theorem plus_step {m n c x y:Nat} (h:m+4294967296^n*c=x+y) (u v:Nat):
 m+4294967296^n*((c+u+v)%4294967296)+4294967296^(n+1)*((c+u+v)/4294967296)=(x+4294967296^n*u)+(y+4294967296^n*v):=by
 rw [Nat.pow_succ,Nat.mul_assoc,Nat.add_assoc,←Nat.mul_add,Nat.mod_add_div,Nat.mul_add,Nat.mul_add];omega
end Go.Ulp
namespace Go.Proofs.YtfphmlmgjhebjaaGreatDoor
open Go.RowKit Go.Ulp
set_option maxHeartbeats 400000
set_option maxRecDepth 100000
theorem plus_core (aL aM:Option Addr) (cL cM:Nat) (m n:Nat) (w:World) (hL:Ns .u32 w aL cL (limbs m)) (hM:Ns .u32 w aM cM (limbs n)) (hs:(limbs m).length≤4294967296)
 (args:Array Value) (hargs:(args= #[.slice aL (limbs m).length cL,.slice aM (limbs n).length cM]∧(limbs n).length≤(limbs m).length∧decide ((limbs m).length<(limbs n).length)=false)∨(args= #[.slice aM (limbs n).length cM,.slice aL (limbs m).length cL]∧(limbs n).length≤(limbs m).length∧decide ((limbs n).length<(limbs m).length)=true)):
 Calls Tryz.prog 163 args w fun e w'=>RetN w (m+n) e w':=by
 have lL:=limbs_lim m
 have lM:=limbs_lim n
 obtain ⟨hL1,hL2,hL3⟩:=hL
 obtain ⟨hM1,hM2,hM3⟩:=hM
 unfold maxLen at hL2 hM2
 rcases hargs with ⟨rfl,hlen,hdl⟩|⟨rfl,hlen,hdl⟩
 all_goals
  go_enter Tryz.func163,Tryz.ntmps163
  go_wp2_with fail
  go_loopw [5,6,18] (fun o c i wr=> ∃(k cc:Nat) (Q:List Nat),k≤(limbs m).length∧i=.int .i64 k∧c=.int .u64 cc∧cc≤1∧Q.length=k∧Lim Q∧lval Q+4294967296^k*cc=lval ((limbs m).take k)+lval ((limbs n).take k)∧Own w.heap.size 181 .u32 wr o Q∧Below w.heap.size w wr) (fun _ _ i _=>(limbs m).length-(intOf i).toNat)
  case atStart=>exact ⟨0,0,[],by omega,rfl,rfl,by omega,rfl,AllLt.nil,by simp [lval,val],Own.nil,Below.refl _ _⟩
  case round=>
   obtain ⟨k,cc,Q,hk,rfl,rfl,hcc,hQ,lQ,hv,hown,hb⟩:=hrel
   have HQ:=hid hQ
   have HV:=hid hv
   clear hQ hv
   by_cases hlt:k<(limbs m).length
   ·obtain ⟨b0,o0,rfl,hc0⟩:=hL3 (by omega)
    obtain ⟨x,hx⟩: ∃x,x=(limbs m).getD k 0:=⟨_,rfl⟩
    have hx1:x<4294967296:=by rw [hx];exact lL.getD (by omega) k
    have hcell:wr.cell? ⟨b0,o0+k,none⟩=some (.int .u32 (x:Int)):=by
     have h1:=hc0 k hlt
     have h2:=hb.cell (p:=⟨b0,o0+k,none⟩) (World.block_lt_of_cell? w _ h1)
     rw [h2,h1,hx];rfl
    clear hc0 hL3
    have HX:=hid hx
    clear hx
    by_cases hlt2:k<(limbs n).length
    ·obtain ⟨b1,o1,rfl,hc1⟩:=hM3 (by omega)
     obtain ⟨y,hy⟩: ∃y,y=(limbs n).getD k 0:=⟨_,rfl⟩
     have hy1:y<4294967296:=by rw [hy];exact lM.getD (by omega) k
     have hcell1:wr.cell? ⟨b1,o1+k,none⟩=some (.int .u32 (y:Int)):=by
      have h1:=hc1 k hlt2
      have h2:=hb.cell (p:=⟨b1,o1+k,none⟩) (World.block_lt_of_cell? w _ h1)
      rw [h2,h1,hy];rfl
     clear hc1 hM3
     have HY:=hid hy
     clear hy
     go_wp2_with (at_builtin;refine wpList_push ei_u32 (by omega) rfl _ _ rfl w.heap.size Q ((cc+x+y)%4294967296) _ rfl (Own.alloc hown _) ⟨wr.heap.size,0,none⟩ rfl (cell_push _ _ _ _ _ (by omega)) (by rw [HQ.out];omega) (by simp;have:=hb.size;omega) ?_;intro v1 w1 hown1 hb1)
     go_roundw
     case rel=>exact ⟨k+1,(cc+x+y)/4294967296,Q++ [(cc+x+y)%4294967296],by omega,by go_num,by go_num,by omega,by rw [List.length_append,HQ.out];rfl,AllLt.append.2 ⟨lQ,AllLt.cons.2 ⟨Nat.mod_lt _ (by omega),AllLt.nil⟩⟩,by
      have:=plus_step HV.out x y
      unfold lval at *
      rw [val_snoc,HQ.out,val_take_succ _ _ _ hlt,val_take_succ _ _ _ hlt2,←HX.out,←HY.out];exact this,hown1,(hb.trans ((below_alloc wr _).mono hb.size)).trans hb1⟩
     case measure=>simp [intOf];omega
    ·have HY:=hid (show (limbs n).take (k+1)=(limbs n).take k by rw [List.take_of_length_le (by omega),List.take_of_length_le (by omega)])
     go_wp2_with (at_builtin;refine wpList_push ei_u32 (by omega) rfl _ _ rfl w.heap.size Q ((cc+x)%4294967296) _ rfl (Own.alloc hown _) ⟨wr.heap.size,0,none⟩ rfl (cell_push _ _ _ _ _ (by omega)) (by rw [HQ.out];omega) (by simp;have:=hb.size;omega) ?_;intro v1 w1 hown1 hb1)
     go_roundw
     case rel=>exact ⟨k+1,(cc+x)/4294967296,Q++ [(cc+x)%4294967296],by omega,by go_num,by go_num,by omega,by rw [List.length_append,HQ.out];rfl,AllLt.append.2 ⟨lQ,AllLt.cons.2 ⟨Nat.mod_lt _ (by omega),AllLt.nil⟩⟩,by
      have:=plus_step HV.out x 0
      unfold lval at *
      rw [val_snoc,HQ.out,val_take_succ _ _ _ hlt,HY.out,←HX.out];simpa using this,hown1,(hb.trans ((below_alloc wr _).mono hb.size)).trans hb1⟩
     case measure=>simp [intOf];omega
   ·have hke:k=(limbs m).length:=by omega
    have hfin:lval (Q++ [cc])=m+n:=by
     have:=HV.out
     rw [hke,List.take_of_length_le (Nat.le_refl _),List.take_of_length_le hlen,lval_limbs,lval_limbs,←hke] at this
     unfold lval at *
     rw [val_snoc,HQ.out];exact this
    have HF:=hid hfin
    clear hfin hke
    go_wp2_with (at_builtin;refine wpList_push ei_u32 (by omega) rfl _ _ rfl w.heap.size Q cc _ rfl (Own.alloc hown _) ⟨wr.heap.size,0,none⟩ rfl (cell_push _ _ _ _ _ (by omega)) (by rw [HQ.out];omega) (by simp;have:=hb.size;omega) ?_;intro v1 w1 hown1 hb1)
    obtain ⟨ao,cap,rfl,hN⟩:=hown1.ns
    go_wp2_with fail
    have lQ1:Lim (Q++ [cc]):=AllLt.append.2 ⟨lQ,AllLt.cons.2 ⟨by omega,AllLt.nil⟩⟩
    refine (norm_any _ _ _ _ hN lQ1).mono ?_
    rintro e w' ⟨rfl,rfl⟩
    have hN':=hN.norm lQ1
    rw [HF.out] at hN' ⊢
    go_wp2_with fail
    go_ret
    exact ⟨_,rfl,hN',(hb.trans ((below_alloc wr _).mono hb.size)).trans hb1⟩
end Go.Proofs.YtfphmlmgjhebjaaGreatDoor
namespace Go.Ulp
theorem minus_step0 {m n q b k:Nat} (h:m+4294967296^k*b=q+n) (x y:Nat) (hxy:b+y≤x):
 (m+4294967296^k*x)+4294967296^(k+1)*0=(q+4294967296^k*(x-b-y))+(n+4294967296^k*y):=by
 obtain ⟨z,rfl⟩: ∃z,x=z+b+y:=⟨x-b-y,by omega⟩
 rw [show z+b+y-b-y=z by omega,Nat.mul_add,Nat.mul_add];omega
theorem minus_step1 {m n q b k:Nat} (h:m+4294967296^k*b=q+n) (x y:Nat) (hx:x<4294967296) (hy:y<4294967296) (hb:b≤1) (hxy:x<b+y):
 (m+4294967296^k*x)+4294967296^(k+1)*1=(q+4294967296^k*(x+4294967296-b-y))+(n+4294967296^k*y):=by
 obtain ⟨z,hz⟩: ∃z,x+4294967296=z+b+y:=⟨x+4294967296-b-y,by omega⟩
 have e:=congrArg (fun t=>4294967296^k*t) hz
 simp only [Nat.mul_add] at e
 rw [show x+4294967296-b-y=z by omega,Nat.pow_succ,Nat.mul_one];omega
theorem minus_end {m n q b k:Nat} (h:m+4294967296^k*b=q+n) (hb:b≤1) (hq:q<4294967296^k) (hn:n≤m):q=m-n:=by
 have:b=0∨b=1:=by omega
 rcases this with rfl|rfl
 ·omega
 ·rw [Nat.mul_one] at h;omega
end Go.Ulp
namespace Go.Proofs.YtfphmlmgjhebjaaGreatDoor
open Go.RowKit Go.Ulp
set_option maxHeartbeats 400000
set_option maxRecDepth 100000
theorem plus_any (a0 a1:Option Addr) (c0 c1:Nat) (m n:Nat) (w:World) (h0:Ns .u32 w a0 c0 (limbs m)) (h1:Ns .u32 w a1 c1 (limbs n)) (hm:(limbs m).length≤4294967296) (hn:(limbs n).length≤4294967296):
 Calls Tryz.prog 163 #[.slice a0 (limbs m).length c0,.slice a1 (limbs n).length c1] w fun e w'=>RetN w (m+n) e w':=by
 by_cases h:(limbs m).length<(limbs n).length
 ·have:=plus_core a1 a0 c1 c0 n m w h1 h0 hn _ (.inr ⟨rfl,by omega,by simpa using h⟩)
  rwa [Nat.add_comm] at this
 ·exact plus_core a0 a1 c0 c1 m n w h0 h1 hm _ (.inl ⟨rfl,by omega,by simpa using h⟩)
theorem minus_any (aL aM:Option Addr) (cL cM:Nat) (m n:Nat) (w:World) (hL:Ns .u32 w aL cL (limbs m)) (hM:Ns .u32 w aM cM (limbs n)) (hs:(limbs m).length≤4294967296) (hnm:n≤m):
 Calls Tryz.prog 211 #[.slice aL (limbs m).length cL,.slice aM (limbs n).length cM] w fun e w'=>RetN w (m-n) e w':=by
 have lL:=limbs_lim m
 have lM:=limbs_lim n
 have hlen:(limbs n).length≤(limbs m).length:=digs_len_mono _ (by omega) hnm
 have HNM:=hid hnm
 clear hnm
 obtain ⟨hL1,hL2,hL3⟩:=hL
 obtain ⟨hM1,hM2,hM3⟩:=hM
 unfold maxLen at hL2 hM2
 go_enter Tryz.func211,Tryz.ntmps211
 go_wp2_with fail
 go_loopw [5,6,12] (fun o c i wr=> ∃(k bb:Nat) (Q:List Nat),k≤(limbs m).length∧i=.int .i64 k∧c=.int .i64 bb∧bb≤1∧Q.length=k∧Lim Q∧lval ((limbs m).take k)+4294967296^k*bb=lval Q+lval ((limbs n).take k)∧Own w.heap.size 181 .u32 wr o Q∧Below w.heap.size w wr) (fun _ _ i _=>(limbs m).length-(intOf i).toNat)
 case atStart=>exact ⟨0,0,[],by omega,rfl,rfl,by omega,rfl,AllLt.nil,by simp [lval,val],Own.nil,Below.refl _ _⟩
 case round=>
  obtain ⟨k,bb,Q,hk,rfl,rfl,hbb,hQ,lQ,hv,hown,hb⟩:=hrel
  have HQ:=hid hQ
  have HV:=hid hv
  clear hQ hv
  by_cases hlt:k<(limbs m).length
  ·obtain ⟨b0,o0,rfl,hc0⟩:=hL3 (by omega)
   obtain ⟨x,hx⟩: ∃x,x=(limbs m).getD k 0:=⟨_,rfl⟩
   have hx1:x<4294967296:=by rw [hx];exact lL.getD (by omega) k
   have hcell:wr.cell? ⟨b0,o0+k,none⟩=some (.int .u32 (x:Int)):=by
    have h1:=hc0 k hlt
    have h2:=hb.cell (p:=⟨b0,o0+k,none⟩) (World.block_lt_of_cell? w _ h1)
    rw [h2,h1,hx];rfl
   clear hc0 hL3
   have HX:=hid hx
   clear hx
   by_cases hlt2:k<(limbs n).length
   ·obtain ⟨b1,o1,rfl,hc1⟩:=hM3 (by omega)
    obtain ⟨y,hy⟩: ∃y,y=(limbs n).getD k 0:=⟨_,rfl⟩
    have hy1:y<4294967296:=by rw [hy];exact lM.getD (by omega) k
    have hcell1:wr.cell? ⟨b1,o1+k,none⟩=some (.int .u32 (y:Int)):=by
     have h1:=hc1 k hlt2
     have h2:=hb.cell (p:=⟨b1,o1+k,none⟩) (World.block_lt_of_cell? w _ h1)
     rw [h2,h1,hy];rfl
    clear hc1 hM3
    have HY:=hid hy
    clear hy
    by_cases hxy:x<bb+y
    ·go_wp2_with (at_builtin;refine wpList_push ei_u32 (by omega) rfl _ _ rfl w.heap.size Q (x+4294967296-bb-y) _ rfl (Own.alloc hown _) ⟨wr.heap.size,0,none⟩ rfl (cell_push _ _ _ _ _ (by omega)) (by rw [HQ.out];omega) (by simp;have:=hb.size;omega) ?_;intro v1 w1 hown1 hb1)
     go_roundw
     case rel=>exact ⟨k+1,1,Q++ [x+4294967296-bb-y],by omega,by go_num,by go_num,by omega,by rw [List.length_append,HQ.out];rfl,AllLt.append.2 ⟨lQ,AllLt.cons.2 ⟨by omega,AllLt.nil⟩⟩,by
      have:=minus_step1 HV.out x y hx1 hy1 hbb hxy
      unfold lval at *
      rw [val_snoc,HQ.out,val_take_succ _ _ _ hlt,val_take_succ _ _ _ hlt2,←HX.out,←HY.out];exact this,hown1,(hb.trans ((below_alloc wr _).mono hb.size)).trans hb1⟩
     case measure=>simp [intOf];omega
    ·go_wp2_with (at_builtin;refine wpList_push ei_u32 (by omega) rfl _ _ rfl w.heap.size Q (x-bb-y) _ rfl (Own.alloc hown _) ⟨wr.heap.size,0,none⟩ rfl (cell_push _ _ _ _ _ (by omega)) (by rw [HQ.out];omega) (by simp;have:=hb.size;omega) ?_;intro v1 w1 hown1 hb1)
     go_roundw
     case rel=>exact ⟨k+1,0,Q++ [x-bb-y],by omega,by go_num,by go_num,by omega,by rw [List.length_append,HQ.out];rfl,AllLt.append.2 ⟨lQ,AllLt.cons.2 ⟨by omega,AllLt.nil⟩⟩,by
      have:=minus_step0 HV.out x y (by omega)
      unfold lval at *
      rw [val_snoc,HQ.out,val_take_succ _ _ _ hlt,val_take_succ _ _ _ hlt2,←HX.out,←HY.out];exact this,hown1,(hb.trans ((below_alloc wr _).mono hb.size)).trans hb1⟩
     case measure=>simp [intOf];omega
   ·have HY:=hid (show (limbs n).take (k+1)=(limbs n).take k by rw [List.take_of_length_le (by omega),List.take_of_length_le (by omega)])
    by_cases hxy:x<bb
    ·go_wp2_with (at_builtin;refine wpList_push ei_u32 (by omega) rfl _ _ rfl w.heap.size Q (x+4294967296-bb) _ rfl (Own.alloc hown _) ⟨wr.heap.size,0,none⟩ rfl (cell_push _ _ _ _ _ (by omega)) (by rw [HQ.out];omega) (by simp;have:=hb.size;omega) ?_;intro v1 w1 hown1 hb1)
     go_roundw
     case rel=>exact ⟨k+1,1,Q++ [x+4294967296-bb],by omega,by go_num,by go_num,by omega,by rw [List.length_append,HQ.out];rfl,AllLt.append.2 ⟨lQ,AllLt.cons.2 ⟨by omega,AllLt.nil⟩⟩,by
      have:=minus_step1 HV.out x 0 hx1 (by omega) hbb (by omega)
      unfold lval at *
      rw [val_snoc,HQ.out,val_take_succ _ _ _ hlt,HY.out,←HX.out];simpa using this,hown1,(hb.trans ((below_alloc wr _).mono hb.size)).trans hb1⟩
     case measure=>simp [intOf];omega
    ·go_wp2_with (at_builtin;refine wpList_push ei_u32 (by omega) rfl _ _ rfl w.heap.size Q (x-bb) _ rfl (Own.alloc hown _) ⟨wr.heap.size,0,none⟩ rfl (cell_push _ _ _ _ _ (by omega)) (by rw [HQ.out];omega) (by simp;have:=hb.size;omega) ?_;intro v1 w1 hown1 hb1)
     go_roundw
     case rel=>exact ⟨k+1,0,Q++ [x-bb],by omega,by go_num,by go_num,by omega,by rw [List.length_append,HQ.out];rfl,AllLt.append.2 ⟨lQ,AllLt.cons.2 ⟨by omega,AllLt.nil⟩⟩,by
      have:=minus_step0 HV.out x 0 (by omega)
      unfold lval at *
      rw [val_snoc,HQ.out,val_take_succ _ _ _ hlt,HY.out,←HX.out];simpa using this,hown1,(hb.trans ((below_alloc wr _).mono hb.size)).trans hb1⟩
     case measure=>simp [intOf];omega
  ·have hke:k=(limbs m).length:=by omega
   have hfin:lval Q=m-n:=by
    have:=HV.out
    rw [hke,List.take_of_length_le (Nat.le_refl _),List.take_of_length_le hlen,lval_limbs,lval_limbs,←hke] at this
    exact minus_end this hbb (by have:=lval_lt Q lQ;rwa [HQ.out] at this) HNM.out
   have HF:=hid hfin
   clear hfin hke
   obtain ⟨ao,cap,rfl,hN⟩:=hown.ns
   go_wp2_with fail
   refine (norm_any _ _ _ _ hN lQ).mono ?_
   rintro e w' ⟨rfl,rfl⟩
   have hN':=hN.norm lQ
   rw [HF.out] at hN' ⊢
   go_wp2_with fail
   go_ret
   exact ⟨_,rfl,hN',hb⟩
end Go.Proofs.YtfphmlmgjhebjaaGreatDoor
