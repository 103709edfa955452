/- WantedSays: what the proof leans on, part 8 (Tx1 Float). -/
import Derived.Laws.Concat
import Derived.Test.YtfphmlmgjhebjaaGreatDoorRows
import Derived.Test.YtfphmlmgjhebjaaGreatDoorKWantedSays2
import Derived.Test.YtfphmlmgjhebjaaGreatDoorKWantedSays7
set_option linter.unusedVariables false
set_option linter.unusedSimpArgs false
namespace Go.Ulp
open Go.RowKit
def bsOf (L:List UInt8):ByteArray:=⟨L.toArray⟩
theorem bs_size (L:List UInt8):(bsOf L).size=L.length:=by simp [bsOf,ByteArray.size]
theorem bs_list (L:List UInt8):(bsOf L).data.toList=L:=by simp [bsOf]
theorem bs_toList (L:List UInt8):(bsOf L).toList=L:=by unfold bsOf;exact ByteArray.toList_mk L
theorem bs_app (A B:List UInt8):bsOf A++bsOf B=bsOf (A++B):=by
 apply ByteArray.ext
 simp [bsOf]
theorem ret_bs {A B:List UInt8} (h:A=B):Ending.returned (.string (bsOf A))=.returned (.string (bsOf B)):=by rw [h]
theorem add_bs {P:Program} (A B:List UInt8) (h:A.length+B.length≤9223372036854775807) (w:World):(Op.stringOp .add (bsOf A) (bsOf B)).run P w=.ok (.string (bsOf (A++B))) w:=by
 rw [run_string_add_sum w _ _ (by rw [bs_size,bs_size];exact h),bs_app]
theorem digit_str: ∀d:Nat,d<10→(ByteArray.mk #[48,49,50,51,52,53,54,55,56,57]).extract d (d+1)=⟨#[UInt8.ofNat (48+d)]⟩:=by decide
def dch (d:Nat):UInt8:=UInt8.ofNat (48+d)
def txt (L:List Nat) (i:Nat):List UInt8:=if i=0 then [] else if i<L.length then padz (4*i) (decD (val 10000 (L.take i))) else decD (val 10000 (L.take i))
theorem txt_zero (L:List Nat):txt L 0= []:=if_pos rfl
theorem txt_step (L:List Nat) (hL:AllLt 10000 L) (hT:Trim L) (i:Nat) (hi:i<L.length):
 txt L (i+1)=(if i+1<L.length then padz 4 (decD (L.getD i 0)) else decD (L.getD i 0))++txt L i:=by
 have hd:L.getD i 0<10000:=hL.getD (by omega) i
 have hlt:(L.take i).length=i:=by rw [List.length_take];omega
 have hv:val 10000 (L.take i)<10000^i:=by
  have h9:=val_lt 10000 (L.take i) (fun d h=>hL d (List.mem_of_mem_take h))
  rwa [hlt] at h9
 have hs:val 10000 (L.take (i+1))=L.getD i 0*10000^i+val 10000 (L.take i):=by
  rw [val_take_succ 10000 L i hi,Nat.mul_comm,Nat.add_comm]
 obtain ⟨d,hdd⟩: ∃d,d=L.getD i 0:=⟨_,rfl⟩
 obtain ⟨b,hb⟩: ∃b,b=val 10000 (L.take i):=⟨_,rfl⟩
 have e1:txt L (i+1)=if i+1<L.length then padz (4*(i+1)) (decD (val 10000 (L.take (i+1)))) else decD (val 10000 (L.take (i+1))):=by unfold txt;rw [if_neg (by omega)]
 have e2:txt L i=if i=0 then [] else padz (4*i) (decD b):=by unfold txt;rw [if_pos hi,←hb]
 rw [e1,e2,hs,←hdd,←hb]
 rw [←hdd] at hd
 rw [←hb] at hv
 by_cases hn:i+1<L.length
 ·rw [if_pos hn,if_pos hn,pad_four d b i hd hv]
 ·rw [if_neg hn,if_neg hn]
  have hd0:0<d:=by
   have hne:L≠ []:=by intro h;rw [h] at hi;simp at hi
   have h9:=hT hne
   rw [List.getLast_eq_getElem] at h9
   rw [hdd,List.getD_eq_getElem?_getD,List.getElem?_eq_getElem hi]
   have e9:L.length-1=i:=by omega
   simp only [e9] at h9
   show 0<L[i]
   omega
  by_cases h0:i=0
  ·subst h0
   rw [if_pos rfl,Nat.pow_zero] at *
   rw [show b=0 by omega];simp
  ·rw [if_neg h0,dec_four d b i hd0 hv (by omega)]
theorem txt_end (m:Nat) (h:0<m):txt (decs m) (decs m).length=decD m:=by
 have hl:0<(decs m).length:=by
  rcases Nat.eq_zero_or_pos (decs m).length with h9|h9
  ·have:=(decs_nil m).1 (List.length_eq_zero_iff.1 h9);omega
  ·exact h9
 unfold txt
 rw [if_neg (by omega),if_neg (by omega),List.take_of_length_le (Nat.le_refl _)]
 congr 1
 exact val_digs 10000 (by omega) m
theorem txt_len (L:List Nat) (hL:AllLt 10000 L) (i:Nat) (hi:i≤L.length):(txt L i).length≤4*i:=by
 unfold txt
 have hlt:(L.take i).length=i:=by rw [List.length_take];omega
 have hv:val 10000 (L.take i)<10000^i:=by
  have h9:=val_lt 10000 (L.take i) (fun d h=>hL d (List.mem_of_mem_take h))
  rwa [hlt] at h9
 by_cases h0:i=0
 ·subst h0;simp
 ·have e:10000^i=10^(4*i):=by rw [show (10000:Nat)=10^4 by decide,←Nat.pow_mul]
  obtain ⟨j,hj⟩: ∃j,4*i=j+1:=⟨4*i-1,by omega⟩
  rw [e,hj] at hv
  have hl:=decD_len j _ hv
  rw [if_neg h0]
  split
  ·rw [padz_len];omega
  ·omega
def strSz (v:Value):Nat:=match v with| .string b=>b.size|_=>0
theorem strSz_bs (L:List UInt8):strSz (.string (bsOf L))=L.length:=bs_size L
theorem add_nil {P:Program} (B:List UInt8) (h:B.length≤1000000000000) (w:World):(Op.stringOp .add ⟨#[48]⟩ (bsOf B)).run P w=.ok (.string (bsOf (48::B))) w:=add_bs [48] B (by simp;omega) w
theorem add_dash {P:Program} (B:List UInt8) (h:B.length≤1000000000000) (w:World):(Op.stringOp .add ⟨#[45]⟩ (bsOf B)).run P w=.ok (.string (bsOf (45::B))) w:=add_bs [45] B (by simp;omega) w
theorem pad_end (D:List UInt8) (j:Nat) (b:Bool) (h1:D.length≤4) (h2:j=0∨(b=true∧j+D.length≤4)) (h3: ¬(j+D.length<4∧b=true)):List.replicate j 48++D=if b=true then padz 4 D else D:=by
 cases b
 ·rcases h2 with rfl|⟨h2,_⟩
  ·rfl
  ·cases h2
 ·have hj:j=4-D.length:=by
   have h4: ¬(j+D.length<4):=fun h=>h3 ⟨h,rfl⟩
   rcases h2 with h2|⟨_,h2⟩<;>omega
  rw [if_pos rfl,hj];rfl
def zTx (x:Int):List UInt8:=if x<0 then 45::decD x.natAbs else decD x.natAbs
end Go.Ulp
namespace Go.Proofs.YtfphmlmgjhebjaaGreatDoor
open Go.RowKit Go.Ulp
set_option maxHeartbeats 1000000
set_option maxRecDepth 100000
theorem digits_any: ∀(k n:Nat),n<10^(k+1)→n<4611686018427387904→ ∀w,Calls Tryz.prog 203 #[.int .i64 (n:Int)] w fun e w'=>e=.returned (.string (bsOf (decD n)))∧w=w':=by
 intro k
 induction k with
 |zero=>
  intro n hn hb w
  have h10:(n:Int)<10:=by simp at hn;omega
  have HD:=hid (show decD n= [dch n] from decD_small (n:=n) (by simpa using hn))
  have hSL: ∀w,(Instr.slice 9 (.string ⟨#[48,49,50,51,52,53,54,55,56,57]⟩) (some (.int .i64 ((n:Int)%10))) (some (.int .i64 ((n:Int)%10+1))) none).run Tryz.prog w=.ok (.string (bsOf [dch n])) w:=fun w=>by
   have e1:((n:Int)%10).toNat=n:=by omega
   have e2:((n:Int)%10+1).toNat=n+1:=by omega
   rw [run_slice_string w 9 _ _ _ _ _ Tryz.underlying9 (by omega) (by omega) (by show _≤((10:Nat):Int);omega),e1,e2,digit_str n (by omega)]
   rfl
  clear hn
  go_enter Tryz.func203,Tryz.ntmps203
  go_wp2_with fail
  go_ret
  exact ⟨ret_bs HD.out.symm,rfl⟩
 |succ k ih=>
  intro n hn hb w
  by_cases hs:n<10
  ·have h10:(n:Int)<10:=by omega
   have HD:=hid (show decD n= [dch n] from decD_small (n:=n) hs)
   have hSL: ∀w,(Instr.slice 9 (.string ⟨#[48,49,50,51,52,53,54,55,56,57]⟩) (some (.int .i64 ((n:Int)%10))) (some (.int .i64 ((n:Int)%10+1))) none).run Tryz.prog w=.ok (.string (bsOf [dch n])) w:=fun w=>by
    have e1:((n:Int)%10).toNat=n:=by omega
    have e2:((n:Int)%10+1).toNat=n+1:=by omega
    rw [run_slice_string w 9 _ _ _ _ _ Tryz.underlying9 (by omega) (by omega) (by show _≤((10:Nat):Int);omega),e1,e2,digit_str n (by omega)]
    rfl
   clear hn ih hs
   go_enter Tryz.func203,Tryz.ntmps203
   go_wp2_with fail
   go_ret
   exact ⟨ret_bs HD.out.symm,rfl⟩
  ·have h10: ¬(n:Int)<10:=by omega
   have HD:=hid (show decD n=decD (n/10)++ [dch (n%10)] from decD_big (n:=n) hs)
   have hSL: ∀w,(Instr.slice 9 (.string ⟨#[48,49,50,51,52,53,54,55,56,57]⟩) (some (.int .i64 ((n:Int)%10))) (some (.int .i64 ((n:Int)%10+1))) none).run Tryz.prog w=.ok (.string (bsOf [dch (n%10)])) w:=fun w=>by
    have e1:((n:Int)%10).toNat=n%10:=by omega
    have e2:((n:Int)%10+1).toNat=n%10+1:=by omega
    rw [run_slice_string w 9 _ _ _ _ _ Tryz.underlying9 (by omega) (by omega) (by show _≤((10:Nat):Int);omega),e1,e2,digit_str (n%10) (by omega)]
    rfl
   have IHn:=hid (show ∀w,Calls Tryz.prog 203 #[.int .i64 ((n:Int)/10)] w fun e w'=>e=.returned (.string (bsOf (decD (n/10))))∧w=w' from fun w=>by
    have e:(n:Int)/10=((n/10:Nat):Int):=by omega
    rw [e]
    exact ih (n/10) (by rw [Nat.pow_succ] at hn;omega) (by omega) w)
   have hl:=decD_len 18 (n/10) (by omega)
   have hAB:=add_bs (P:=Tryz.prog) (decD (n/10)) [dch (n%10)] (by simp;omega)
   clear hn ih hs hl
   go_enter Tryz.func203,Tryz.ntmps203
   go_wp2_with (go_at_call 203;(with_reducible refine (IHn.out _).mono ?_);rintro en w1 ⟨rfl,rfl⟩)
   go_ret
   exact ⟨ret_bs HD.out.symm,rfl⟩
theorem zText_any (x:Int) (a0:Option Addr) (c0:Nat) (w:World) (h0:Nz 3 w a0 c0 (zl x)) (hl:(zl x).length≤1000000):
 Calls Tryz.prog 202 #[.agg #[.bool (zneg x),.slice a0 (zl x).length c0]] w fun e w'=>e=.returned (.string (bsOf (zTx x)))∧Below w.heap.size w w':=by
 have HL:=hid (zl_dec x)
 have HT:=hid (show Trim (zl x) from decs_trim _)
 have hcap:=h0.1.1
 have hcap2:=h0.1.2.1
 unfold maxLen at hcap2
 have H3:=hid h0.1.2.2
 have hng:zneg x=decide (x<0):=rfl
 have HE:=hid (show 0<x.natAbs→txt (zl x) (zl x).length=decD x.natAbs from fun h=>txt_end x.natAbs h)
 have HZ:=hid (show (zl x).length=0→x=0 from fun h=>by have:=(decs_nil x.natAbs).1 (List.length_eq_zero_iff.1 h);omega)
 have HZ2:=hid (show x=0→(zl x).length=0 from fun h=>by rw [h];rfl)
 have ST:=hid (fun i hi=>txt_step (zl x) HL.out HT.out i hi)
 have TL:=hid (fun i hi=>txt_len (zl x) HL.out i hi)
 have hTXx:=hid (show zTx x=if x<0 then 45::decD x.natAbs else decD x.natAbs from rfl)
 obtain ⟨L,hL⟩: ∃L,L=zl x:=⟨_,rfl⟩
 rw [←hL] at HL HT H3 HE HZ HZ2 ST TL hl hcap ⊢
 obtain ⟨N,hN⟩: ∃N,N=L.length:=⟨_,rfl⟩
 rw [←hN] at H3 HE HZ HZ2 ST TL hl hcap ⊢
 have zA:ZL 31 (w.alloc (.cells #[.bool (zneg x),.slice a0 N c0] 31)) w.heap.size (zneg x) (.slice a0 N c0):=ZL.made rfl
 have yb:=below_alloc w (.cells #[.bool (zneg x),.slice a0 N c0] 31)
 obtain ⟨W0,hW0⟩: ∃W,W=w.alloc (.cells #[.bool (zneg x),.slice a0 N c0] 31):=⟨_,rfl⟩
 rw [←hW0] at zA yb
 have HC:=hid (show ∀i,i<N→ ∃b off,a0=some ⟨b,off,none⟩∧W0.cell? ⟨b,off+i,none⟩=some (.int .i64 ((L.getD i 0:Nat):Int)) from fun i hi=>by
  obtain ⟨b,off,e,hc⟩:=H3.out (by omega)
  exact ⟨b,off,e,(yb.cell (p:=⟨b,off+i,none⟩) (World.block_lt_of_cell? _ _ (hc i hi))).trans (hc i hi)⟩)
 have HD:=hid (show ∀i,L.getD i 0<10000 from fun i=>HL.out.getD (by omega) i)
 obtain ⟨B,hB⟩: ∃b,b=zneg x:=⟨_,rfl⟩
 rw [←hB] at zA hW0 ⊢
 rw [hng] at hB
 have HB:=hid hB
 clear h0 hL hN hng hB H3 HL HT
 go_enter Tryz.func202,Tryz.ntmps202
 go_upto_region 1 with fail
 rw [←hW0]
 clear hW0
 obtain ⟨j0,j1,-,-,-⟩:=id zA
 go_wp2_with fail
 go_loopw [3,4,5,6,10] (fun s3 s4 s5 s6 s10 wr=> ∃i:Nat,i≤N∧s10=.int .i64 (i:Int)∧s3=.string (bsOf (txt L i))∧wr=W0) (fun _ _ _ _ i _=>N-(intOf i).toNat)
 case atStart=>exact ⟨0,by omega,rfl,rfl,rfl⟩
 case round=>
  obtain ⟨i,hi,rfl,rfl,rfl⟩:=hrel
  by_cases hlt:i<N
  ·obtain ⟨b,off,rfl,hcell⟩:=HC.out i hlt
   obtain ⟨d,hd⟩: ∃d,d=L.getD i 0:=⟨_,rfl⟩
   have hd1:=HD.out i
   have hst:=ST.out i hlt
   rw [←hd] at hcell hd1 hst
   have DG:=hid (fun w=>digits_any 3 d (by omega) (by omega) w)
   have hdl:(decD d).length≤4:=decD_len 3 d (by omega)
   have HST:=hid hst
   have htl:=TL.out i (by omega)
   obtain ⟨D,hD⟩: ∃D,D=decD d:=⟨_,rfl⟩
   rw [←hD] at DG hdl HST
   obtain ⟨T,hT⟩: ∃T,T=txt L i:=⟨_,rfl⟩
   rw [←hT] at htl HST ⊢
   clear hd hst hD hT
   go_wp2_with (go_at_call 203;(with_reducible refine (DG.out _).mono ?_);rintro en w1 ⟨rfl,rfl⟩)
   go_loopw [6] (fun s6 wq=> ∃j:Nat,s6=.string (bsOf (List.replicate j 48++D))∧(j=0∨(decide (i+1<N)=true∧j+D.length≤4))∧wq=wr) (fun s6 _=>4-strSz s6)
   case atStart=>exact ⟨0,rfl,.inl rfl,rfl⟩
   case round=>
    obtain ⟨j,rfl,hj,rfl⟩:=hrel
    obtain ⟨X,hX⟩: ∃X,X=List.replicate j 48++D:=⟨_,rfl⟩
    have hXl:X.length=j+D.length:=by rw [hX,List.length_append,List.length_replicate]
    obtain ⟨l,hll⟩: ∃l,l=X.length:=⟨_,rfl⟩
    have hsz:(bsOf X).size=l:=by rw [bs_size,hll]
    have hl8:l≤8:=by rcases hj with hj|⟨_,hj⟩<;>omega
    have hAB:=add_bs (P:=Tryz.prog) X T (by omega)
    have hAN:=add_nil (P:=Tryz.prog) X (by omega)
    rw [←hX]
    have HX:=hid hX
    have HJ:=hid hj
    have HLL:=hid hll
    have HXL:=hid (show l=j+D.length by omega)
    clear hX hXl hll hj
    by_cases h4:l<4
    ·by_cases hk:i+1<N
     ·have hk2:(i:Int)<(N:Int)-1:=by omega
      clear hAB
      go_wp2_with fail
      go_roundw
      case rel=>exact ⟨j+1,by rw [HX.out];rfl,.inr ⟨decide_eq_true hk,by have:=HXL.out;omega⟩,by first|rfl|trivial⟩
      case measure=>rw [strSz_bs,strSz_bs,List.length_cons,←HLL.out];omega
     ·have hk2: ¬(i:Int)<(N:Int)-1:=by omega
      have HE9:=hid (show X=if decide (i+1<N)=true then padz 4 D else D by
       rw [HX.out];exact pad_end D j _ hdl HJ.out (fun h=>hk (of_decide_eq_true h.2)))
      clear hAN
      go_wp2_with fail
      go_roundw
      case rel=>exact ⟨i+1,by omega,by go_num,by rw [HST.out,HE9.out];simp only [decide_eq_true_eq],by first|rfl|trivial⟩
      case measure=>simp [intOf];omega
    ·have HE9:=hid (show X=if decide (i+1<N)=true then padz 4 D else D by
      rw [HX.out];exact pad_end D j _ hdl HJ.out (fun h=>h4 (by have:=HXL.out;omega)))
     clear hAN
     go_wp2_with fail
     go_roundw
     case rel=>exact ⟨i+1,by omega,by go_num,by rw [HST.out,HE9.out];simp only [decide_eq_true_eq],by first|rfl|trivial⟩
     case measure=>simp [intOf];omega
  ·have e:i=N:=by omega
   subst e
   by_cases hx:x=0
   ·have hi0:=HZ2.out hx
    have HF:=hid (show zTx x= [48] by rw [hTXx.out,hx,if_neg (by omega)];exact decD_small (n:=0) (by omega))
    have hT0:txt L i= []:=by rw [hi0];exact txt_zero L
    rw [hT0]
    have hTL:(bsOf ([]:List UInt8)).toList= []:=bs_toList []
    clear hT0 HE HZ HZ2 hTXx ST TL hx hi0
    go_wp2_with fail
    go_ret
    exact ⟨by rw [HF.out];rfl,yb⟩
   ·have hT0:=HE.out (by omega)
    rw [hT0]
    obtain ⟨c,r,hcr⟩: ∃c r,decD x.natAbs=c::r:=by
     cases hd:decD x.natAbs with
     |nil=>exact absurd hd (decD_ne _)
     |cons c r=>exact ⟨c,r,rfl⟩
    have htl:=TL.out i (by omega)
    rw [hT0] at htl
    obtain ⟨T,hT⟩: ∃T,T=decD x.natAbs:=⟨_,rfl⟩
    rw [←hT] at htl hcr ⊢
    have hTL:(bsOf T).toList=c::r:=by rw [bs_toList,hcr]
    have hAD:=add_dash (P:=Tryz.prog) T (by omega)
    have HF:=hid (show zTx x=if x<0 then 45::T else T by rw [hT];exact hTXx.out)
    clear hT0 HE HZ HZ2 hTXx ST TL hx hcr hT htl
    cases B
    ·have hneg: ¬x<0:=of_decide_eq_false HB.out.symm
     have HF2:=hid (show zTx x=T by rw [HF.out,if_neg hneg])
     clear HF HB hneg hAD
     go_wp2_with fail
     go_ret
     exact ⟨ret_bs HF2.out.symm,yb⟩
    ·have hneg:x<0:=of_decide_eq_true HB.out.symm
     have HF2:=hid (show zTx x=45::T by rw [HF.out,if_pos hneg])
     clear HF HB hneg
     go_wp2_with fail
     go_ret
     exact ⟨ret_bs HF2.out.symm,yb⟩
end Go.Proofs.YtfphmlmgjhebjaaGreatDoor
namespace Go.Ulp
def expOf (x:Int):Int:=x/4503599627370496%2048
def fracOf (x:Int):Int:=x%4503599627370496
def negB (x:Int):Bool:=decide (9223372036854775808≤x)
def classOf (x:Int):Int:=if expOf x=2047 then (if 0<fracOf x then 5 else 4) else if 0<expOf x then 3 else if 0<fracOf x then 2 else 1
def ranked (n:Int):Int:=if n<0 then 9223372036854775808+ -n else n
def absOf (x:Int):Int:=x%9223372036854775808
def hasVal (x:Int):Bool:=decide (x%9223372036854775808<9218868437227405312)
theorem expOf_bd (x:Int):0≤expOf x∧expOf x≤2047:=by unfold expOf;omega
theorem fracOf_bd (x:Int):0≤fracOf x∧fracOf x<4503599627370496:=by unfold fracOf;omega
theorem class_val (x:Int) (h0:0≤x) (h1:x<18446744073709551616):4≤classOf x↔9218868437227405312≤absOf x:=by
 unfold classOf absOf;split
 ·rename_i h;unfold expOf at h;constructor
  ·intro _;omega
  ·intro _;split<;>omega
 ·rename_i h;unfold expOf at h;constructor
  ·intro h2;split at h2<;>(try split at h2)<;>omega
  ·intro h2;omega
end Go.Ulp
namespace Go.Proofs.YtfphmlmgjhebjaaGreatDoor
open Go.RowKit Go.Ulp
set_option maxHeartbeats 400000
theorem parts_any (x:Int) (h0:0≤x) (h1:x<18446744073709551616) (w:World):
 Calls Tryz.prog 87 #[.int .u64 x] w fun e w'=>e=.returned (.tuple #[.bool (negB x),.int .i64 (expOf x),.int .u64 (fracOf x)])∧w=w':=by
 have e1:=and_2047 (x/4503599627370496) (by omega) (by omega)
 have e2:=and_frac x h0 h1
 have E1:=hid e1
 have E2:=hid e2
 clear e1 e2
 go_enter Tryz.func87,Tryz.ntmps87
 go_wp2_with fail
 go_ret3
 refine ⟨?_,rfl⟩
 simp only [Array.getD,E1.out,E2.out]
 have:(x/9223372036854775808==1)=negB x:=by unfold negB;rw [Bool.eq_iff_iff];simp;omega
 simp [this,expOf,fracOf]
 rw [IntWalk.wrap64_in _ (by omega)]
theorem fields_any (x:Int) (h0:0≤x) (h1:x<18446744073709551616) (w:World):
 Calls Tryz.prog 105 #[.int .u64 x] w fun e w'=>e=.returned (.tuple #[.bool (negB x),.int .i64 (expOf x),.int .i64 (fracOf x)])∧w=w':=by
 go_enter Tryz.func105,Tryz.ntmps105
 go_wp2_with fail
 go_ret3
 refine ⟨?_,rfl⟩
 simp [negB,expOf,fracOf]
 try omega
theorem class_any (x:Int) (h0:0≤x) (h1:x<18446744073709551616) (w:World):
 Calls Tryz.prog 33 #[.int .u64 x] w fun e w'=>e=.returned (.int .i64 (classOf x))∧w=w':=by
 have b1:=expOf_bd x
 have b2:=fracOf_bd x
 by_cases c1:expOf x=0<;>by_cases c2:fracOf x=0<;>by_cases c3:expOf x=2047<;>try omega
 all_goals
  have hc:classOf x=classOf x:=rfl
  conv at hc=>rhs;unfold classOf
  simp only [c1,c2,c3] at hc
  have HC:=hid hc
  clear hc
  go_enter Tryz.func33,Tryz.ntmps33
  go_wp2_with (go_at_call 87;refine (parts_any x h0 h1 _).mono ?_;rintro e w' ⟨rfl,rfl⟩)
  go_ret
  refine ⟨ret_int ?_,rfl⟩
  rw [HC.out]
  simp
  try omega
theorem classOf_any (x:Int) (h0:0≤x) (h1:x<18446744073709551616) (w:World):
 Calls Tryz.prog 104 #[.int .u64 x] w fun e w'=>e=.returned (.int .i64 (classOf x))∧w=w':=by
 have b1:=expOf_bd x
 have b2:=fracOf_bd x
 by_cases c1:0<expOf x<;>by_cases c2:0<fracOf x<;>by_cases c3:expOf x=2047<;>try omega
 all_goals
  have hc:classOf x=classOf x:=rfl
  conv at hc=>rhs;unfold classOf
  simp only [c1,c2,c3] at hc
  have HC:=hid hc
  clear hc
  go_enter Tryz.func104,Tryz.ntmps104
  go_wp2_with (go_at_call 105;refine (fields_any x h0 h1 _).mono ?_;rintro e w' ⟨rfl,rfl⟩)
  go_ret
  refine ⟨ret_int ?_,rfl⟩
  rw [HC.out]
  simp
theorem abs_any (x:Int) (h0:0≤x) (h1:x<18446744073709551616) (w:World):
 Calls Tryz.prog 69 #[.int .u64 x] w fun e w'=>e=.returned (.int .u64 (absOf x))∧w=w':=by
 have E:=hid (andNot_sign x h0 h1)
 go_enter Tryz.func69,Tryz.ntmps69
 go_wp2_with fail
 go_ret
 exact ⟨ret_int E.out,rfl⟩
theorem hasValue_any (x:Int) (h0:0≤x) (h1:x<18446744073709551616) (w:World):
 Calls Tryz.prog 47 #[.int .u64 x] w fun e w'=>e=.returned (.bool (hasVal x))∧w=w':=by
 go_enter Tryz.func47,Tryz.ntmps47
 go_wp2_with (go_at_call 69;refine (abs_any x h0 h1 _).mono ?_;rintro e w' ⟨rfl,rfl⟩)
 go_ret
 exact ⟨ret_bool (by simp only [hasVal,absOf];rfl),rfl⟩
theorem between_any (n lo hi:Int) (w:World):
 Calls Tryz.prog 25 #[.int .i64 n,.int .i64 lo,.int .i64 hi] w fun e w'=>e=.returned (.bool (decide (lo≤n∧n≤hi)))∧w=w':=by
 by_cases c1:lo≤n<;>by_cases c2:n≤hi
 all_goals
  go_enter Tryz.func25,Tryz.ntmps25
  go_wp2_with fail
  go_ret
  exact ⟨ret_bool (by simp [c1,c2]),rfl⟩
end Go.Proofs.YtfphmlmgjhebjaaGreatDoor
