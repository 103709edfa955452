/- ExpoLogs: what the proof leans on, part 24 (Tx1 Zv Tx3 RegM Tx5 Sf0). -/
import Derived.Laws.Concat
import Derived.Test.YtehhegbkahnhgaaGreatDoorKExpoLogs8
import Derived.Test.YtehhegbkahnhgaaGreatDoorKExpoLogs11
import Derived.Test.YtehhegbkahnhgaaGreatDoorKExpoLogs17
import Derived.Test.YtehhegbkahnhgaaGreatDoorKExpoLogs22
import Derived.Test.YtehhegbkahnhgaaGreatDoorKExpoLogs23
set_option linter.unusedVariables false
set_option linter.unusedSimpArgs false
namespace Go.Ulp
open Go.RowKit
def bsOf (L:List UInt8):ByteArray:=⟨L.toArray⟩
theorem bs_size (L:List UInt8):(bsOf L).size=L.length:=by simp [bsOf,ByteArray.size]
theorem bs_toList (L:List UInt8):(bsOf L).toList=L:=by unfold bsOf;exact ByteArray.toList_mk L
theorem bs_app (A B:List UInt8):bsOf A++bsOf B=bsOf (A++B):=by
 apply ByteArray.ext
 simp [bsOf]
theorem ret_bs {A B:List UInt8} (h:A=B):Ending.returned (.string (bsOf A))=.returned (.string (bsOf B)):=by rw [h]
theorem add_bs {P:Program} (A B:List UInt8) (h:A.length+B.length≤9223372036854775807) (w:World):(Op.stringOp .add (bsOf A) (bsOf B)).run P w=.ok (.string (bsOf (A++B))) w:=by
 rw [run_string_add_sum w _ _ (by rw [bs_size,bs_size];exact h),bs_app]
theorem digit_str: ∀d:Nat,d<10→(ByteArray.mk #[48,49,50,51,52,53,54,55,56,57]).extract d (d+1)=⟨#[UInt8.ofNat (48+d)]⟩:=by decide
def dch (d:Nat):UInt8:=UInt8.ofNat (48+d)
def txt (L:List Nat) (i:Nat):List UInt8:=if i=0 then [] else if i<L.length then padz (4*i) (decD (val 10000 (L.take i))) else decD (val 10000 (L.take i))
theorem txt_zero (L:List Nat):txt L 0= []:=if_pos rfl
theorem txt_step (L:List Nat) (hL:AllLt 10000 L) (hT:Trim L) (i:Nat) (hi:i<L.length):
 txt L (i+1)=(if i+1<L.length then padz 4 (decD (L.getD i 0)) else decD (L.getD i 0))++txt L i:=by
 have hd:L.getD i 0<10000:=hL.getD (by omega) i
 have hlt:(L.take i).length=i:=by rw [List.length_take];omega
 have hv:val 10000 (L.take i)<10000^i:=by
  have h9:=val_lt 10000 (L.take i) (fun d h=>hL d (List.mem_of_mem_take h))
  rwa [hlt] at h9
 have hs:val 10000 (L.take (i+1))=L.getD i 0*10000^i+val 10000 (L.take i):=by
  rw [val_take_succ 10000 L i hi,Nat.mul_comm,Nat.add_comm]
 obtain ⟨d,hdd⟩: ∃d,d=L.getD i 0:=⟨_,rfl⟩
 obtain ⟨b,hb⟩: ∃b,b=val 10000 (L.take i):=⟨_,rfl⟩
 have e1:txt L (i+1)=if i+1<L.length then padz (4*(i+1)) (decD (val 10000 (L.take (i+1)))) else decD (val 10000 (L.take (i+1))):=by unfold txt;rw [if_neg (by omega)]
 have e2:txt L i=if i=0 then [] else padz (4*i) (decD b):=by unfold txt;rw [if_pos hi,←hb]
 rw [e1,e2,hs,←hdd,←hb]
 rw [←hdd] at hd
 rw [←hb] at hv
 by_cases hn:i+1<L.length
 ·rw [if_pos hn,if_pos hn,pad_four d b i hd hv]
 ·rw [if_neg hn,if_neg hn]
  have hd0:0<d:=by
   have hne:L≠ []:=by intro h;rw [h] at hi;simp at hi
   have h9:=hT hne
   rw [List.getLast_eq_getElem] at h9
   rw [hdd,List.getD_eq_getElem?_getD,List.getElem?_eq_getElem hi]
   have e9:L.length-1=i:=by omega
   simp only [e9] at h9
   show 0<L[i]
   omega
  by_cases h0:i=0
  ·subst h0
   rw [if_pos rfl,Nat.pow_zero] at *
   rw [show b=0 by omega];simp
  ·rw [if_neg h0,dec_four d b i hd0 hv (by omega)]
theorem txt_end (m:Nat) (h:0<m):txt (decs m) (decs m).length=decD m:=by
 have hl:0<(decs m).length:=by
  rcases Nat.eq_zero_or_pos (decs m).length with h9|h9
  ·have:=(decs_nil m).1 (List.length_eq_zero_iff.1 h9);omega
  ·exact h9
 unfold txt
 rw [if_neg (by omega),if_neg (by omega),List.take_of_length_le (Nat.le_refl _)]
 congr 1
 exact val_digs 10000 (by omega) m
theorem txt_len (L:List Nat) (hL:AllLt 10000 L) (i:Nat) (hi:i≤L.length):(txt L i).length≤4*i:=by
 unfold txt
 have hlt:(L.take i).length=i:=by rw [List.length_take];omega
 have hv:val 10000 (L.take i)<10000^i:=by
  have h9:=val_lt 10000 (L.take i) (fun d h=>hL d (List.mem_of_mem_take h))
  rwa [hlt] at h9
 by_cases h0:i=0
 ·subst h0;simp
 ·have e:10000^i=10^(4*i):=by rw [show (10000:Nat)=10^4 by decide,←Nat.pow_mul]
  obtain ⟨j,hj⟩: ∃j,4*i=j+1:=⟨4*i-1,by omega⟩
  rw [e,hj] at hv
  have hl:=decD_len j _ hv
  rw [if_neg h0]
  split
  ·rw [padz_len];omega
  ·omega
def strSz (v:Value):Nat:=match v with| .string b=>b.size|_=>0
theorem strSz_bs (L:List UInt8):strSz (.string (bsOf L))=L.length:=bs_size L
theorem add_nil {P:Program} (B:List UInt8) (h:B.length≤1000000000000) (w:World):(Op.stringOp .add ⟨#[48]⟩ (bsOf B)).run P w=.ok (.string (bsOf (48::B))) w:=add_bs [48] B (by simp;omega) w
theorem add_dash {P:Program} (B:List UInt8) (h:B.length≤1000000000000) (w:World):(Op.stringOp .add ⟨#[45]⟩ (bsOf B)).run P w=.ok (.string (bsOf (45::B))) w:=add_bs [45] B (by simp;omega) w
theorem pad_end (D:List UInt8) (j:Nat) (b:Bool) (h1:D.length≤4) (h2:j=0∨(b=true∧j+D.length≤4)) (h3: ¬(j+D.length<4∧b=true)):List.replicate j 48++D=if b=true then padz 4 D else D:=by
 cases b
 ·rcases h2 with rfl|⟨h2,_⟩
  ·rfl
  ·cases h2
 ·have hj:j=4-D.length:=by
   have h4: ¬(j+D.length<4):=fun h=>h3 ⟨h,rfl⟩
   rcases h2 with h2|⟨_,h2⟩<;>omega
  rw [if_pos rfl,hj];rfl
def zTx (x:Int):List UInt8:=if x<0 then 45::decD x.natAbs else decD x.natAbs
end Go.Ulp
namespace Go.Proofs.YtehhegbkahnhgaaGreatDoor
open Go.RowKit Go.Ulp
set_option maxHeartbeats 1000000
set_option maxRecDepth 100000
theorem digits_any: ∀(k n:Nat),n<10^(k+1)→n<4611686018427387904→ ∀w,Calls Tryz.prog 133 #[.int .i64 (n:Int)] w fun e w'=>e=.returned (.string (bsOf (decD n)))∧w=w':=by
 intro k
 induction k with
 |zero=>
  intro n hn hb w
  have h10:(n:Int)<10:=by simp at hn;omega
  have HD:=hid (show decD n= [dch n] from decD_small (n:=n) (by simpa using hn))
  have hSL: ∀w,(Instr.slice 9 (.string ⟨#[48,49,50,51,52,53,54,55,56,57]⟩) (some (.int .i64 ((n:Int)%10))) (some (.int .i64 ((n:Int)%10+1))) none).run Tryz.prog w=.ok (.string (bsOf [dch n])) w:=fun w=>by
   have e1:((n:Int)%10).toNat=n:=by omega
   have e2:((n:Int)%10+1).toNat=n+1:=by omega
   rw [run_slice_string w 9 _ _ _ _ _ Tryz.underlying9 (by omega) (by omega) (by show _≤((10:Nat):Int);omega),e1,e2,digit_str n (by omega)]
   rfl
  clear hn
  go_enter Tryz.func133,Tryz.ntmps133
  go_wp2_with fail
  go_ret
  exact ⟨ret_bs HD.out.symm,rfl⟩
 |succ k ih=>
  intro n hn hb w
  by_cases hs:n<10
  ·have h10:(n:Int)<10:=by omega
   have HD:=hid (show decD n= [dch n] from decD_small (n:=n) hs)
   have hSL: ∀w,(Instr.slice 9 (.string ⟨#[48,49,50,51,52,53,54,55,56,57]⟩) (some (.int .i64 ((n:Int)%10))) (some (.int .i64 ((n:Int)%10+1))) none).run Tryz.prog w=.ok (.string (bsOf [dch n])) w:=fun w=>by
    have e1:((n:Int)%10).toNat=n:=by omega
    have e2:((n:Int)%10+1).toNat=n+1:=by omega
    rw [run_slice_string w 9 _ _ _ _ _ Tryz.underlying9 (by omega) (by omega) (by show _≤((10:Nat):Int);omega),e1,e2,digit_str n (by omega)]
    rfl
   clear hn ih hs
   go_enter Tryz.func133,Tryz.ntmps133
   go_wp2_with fail
   go_ret
   exact ⟨ret_bs HD.out.symm,rfl⟩
  ·have h10: ¬(n:Int)<10:=by omega
   have HD:=hid (show decD n=decD (n/10)++ [dch (n%10)] from decD_big (n:=n) hs)
   have hSL: ∀w,(Instr.slice 9 (.string ⟨#[48,49,50,51,52,53,54,55,56,57]⟩) (some (.int .i64 ((n:Int)%10))) (some (.int .i64 ((n:Int)%10+1))) none).run Tryz.prog w=.ok (.string (bsOf [dch (n%10)])) w:=fun w=>by
    have e1:((n:Int)%10).toNat=n%10:=by omega
    have e2:((n:Int)%10+1).toNat=n%10+1:=by omega
    rw [run_slice_string w 9 _ _ _ _ _ Tryz.underlying9 (by omega) (by omega) (by show _≤((10:Nat):Int);omega),e1,e2,digit_str (n%10) (by omega)]
    rfl
   have IHn:=hid (show ∀w,Calls Tryz.prog 133 #[.int .i64 ((n:Int)/10)] w fun e w'=>e=.returned (.string (bsOf (decD (n/10))))∧w=w' from fun w=>by
    have e:(n:Int)/10=((n/10:Nat):Int):=by omega
    rw [e]
    exact ih (n/10) (by rw [Nat.pow_succ] at hn;omega) (by omega) w)
   have hl:=decD_len 18 (n/10) (by omega)
   have hAB:=add_bs (P:=Tryz.prog) (decD (n/10)) [dch (n%10)] (by simp;omega)
   clear hn ih hs hl
   go_enter Tryz.func133,Tryz.ntmps133
   go_wp2_with (go_at_call 133;(with_reducible refine (IHn.out _).mono ?_);rintro en w1 ⟨rfl,rfl⟩)
   go_ret
   exact ⟨ret_bs HD.out.symm,rfl⟩
theorem zText_any (x:Int) (a0:Option Addr) (c0:Nat) (w:World) (h0:Nz 3 w a0 c0 (zl x)) (hl:(zl x).length≤2000000000):
 Calls Tryz.prog 131 #[.agg #[.bool (zneg x),.slice a0 (zl x).length c0]] w fun e w'=>e=.returned (.string (bsOf (zTx x)))∧Below w.heap.size w w':=by
 have HL:=hid (zl_dec x)
 have HT:=hid (show Trim (zl x) from decs_trim _)
 have hcap:=h0.1.1
 have hcap2:=h0.1.2.1
 unfold maxLen at hcap2
 have H3:=hid h0.1.2.2
 have hng:zneg x=decide (x<0):=rfl
 have HE:=hid (show 0<x.natAbs→txt (zl x) (zl x).length=decD x.natAbs from fun h=>txt_end x.natAbs h)
 have HZ:=hid (show (zl x).length=0→x=0 from fun h=>by have:=(decs_nil x.natAbs).1 (List.length_eq_zero_iff.1 h);omega)
 have HZ2:=hid (show x=0→(zl x).length=0 from fun h=>by rw [h];rfl)
 have ST:=hid (fun i hi=>txt_step (zl x) HL.out HT.out i hi)
 have TL:=hid (fun i hi=>txt_len (zl x) HL.out i hi)
 have hTXx:=hid (show zTx x=if x<0 then 45::decD x.natAbs else decD x.natAbs from rfl)
 obtain ⟨L,hL⟩: ∃L,L=zl x:=⟨_,rfl⟩
 rw [←hL] at HL HT H3 HE HZ HZ2 ST TL hl hcap ⊢
 obtain ⟨N,hN⟩: ∃N,N=L.length:=⟨_,rfl⟩
 rw [←hN] at H3 HE HZ HZ2 ST TL hl hcap ⊢
 have zA:ZL 47 (w.alloc (.cells #[.bool (zneg x),.slice a0 N c0] 47)) w.heap.size (zneg x) (.slice a0 N c0):=ZL.made rfl
 have yb:=below_alloc w (.cells #[.bool (zneg x),.slice a0 N c0] 47)
 obtain ⟨W0,hW0⟩: ∃W,W=w.alloc (.cells #[.bool (zneg x),.slice a0 N c0] 47):=⟨_,rfl⟩
 rw [←hW0] at zA yb
 have HC:=hid (show ∀i,i<N→ ∃b off,a0=some ⟨b,off,none⟩∧W0.cell? ⟨b,off+i,none⟩=some (.int .i64 ((L.getD i 0:Nat):Int)) from fun i hi=>by
  obtain ⟨b,off,e,hc⟩:=H3.out (by omega)
  exact ⟨b,off,e,(yb.cell (p:=⟨b,off+i,none⟩) (World.block_lt_of_cell? _ _ (hc i hi))).trans (hc i hi)⟩)
 have HD:=hid (show ∀i,L.getD i 0<10000 from fun i=>HL.out.getD (by omega) i)
 obtain ⟨B,hB⟩: ∃b,b=zneg x:=⟨_,rfl⟩
 rw [←hB] at zA hW0 ⊢
 rw [hng] at hB
 have HB:=hid hB
 clear h0 hL hN hng hB H3 HL HT
 go_enter Tryz.func131,Tryz.ntmps131
 go_upto_region 1 with fail
 rw [←hW0]
 clear hW0
 obtain ⟨j0,j1,-,-,-⟩:=id zA
 go_wp2_with fail
 go_loopw [3,4,5,6,10] (fun s3 s4 s5 s6 s10 wr=> ∃i:Nat,i≤N∧s10=.int .i64 (i:Int)∧s3=.string (bsOf (txt L i))∧wr=W0) (fun _ _ _ _ i _=>N-(intOf i).toNat)
 case atStart=>exact ⟨0,by omega,rfl,rfl,rfl⟩
 case round=>
  obtain ⟨i,hi,rfl,rfl,rfl⟩:=hrel
  by_cases hlt:i<N
  ·obtain ⟨b,off,rfl,hcell⟩:=HC.out i hlt
   obtain ⟨d,hd⟩: ∃d,d=L.getD i 0:=⟨_,rfl⟩
   have hd1:=HD.out i
   have hst:=ST.out i hlt
   rw [←hd] at hcell hd1 hst
   have DG:=hid (fun w=>digits_any 3 d (by omega) (by omega) w)
   have hdl:(decD d).length≤4:=decD_len 3 d (by omega)
   have HST:=hid hst
   have htl:=TL.out i (by omega)
   obtain ⟨D,hD⟩: ∃D,D=decD d:=⟨_,rfl⟩
   rw [←hD] at DG hdl HST
   obtain ⟨T,hT⟩: ∃T,T=txt L i:=⟨_,rfl⟩
   rw [←hT] at htl HST ⊢
   clear hd hst hD hT
   go_wp2_with (go_at_call 133;(with_reducible refine (DG.out _).mono ?_);rintro en w1 ⟨rfl,rfl⟩)
   go_loopw [6] (fun s6 wq=> ∃j:Nat,s6=.string (bsOf (List.replicate j 48++D))∧(j=0∨(decide (i+1<N)=true∧j+D.length≤4))∧wq=wr) (fun s6 _=>4-strSz s6)
   case atStart=>exact ⟨0,rfl,.inl rfl,rfl⟩
   case round=>
    obtain ⟨j,rfl,hj,rfl⟩:=hrel
    obtain ⟨X,hX⟩: ∃X,X=List.replicate j 48++D:=⟨_,rfl⟩
    have hXl:X.length=j+D.length:=by rw [hX,List.length_append,List.length_replicate]
    obtain ⟨l,hll⟩: ∃l,l=X.length:=⟨_,rfl⟩
    have hsz:(bsOf X).size=l:=by rw [bs_size,hll]
    have hl8:l≤8:=by rcases hj with hj|⟨_,hj⟩<;>omega
    have hAB:=add_bs (P:=Tryz.prog) X T (by omega)
    have hAN:=add_nil (P:=Tryz.prog) X (by omega)
    rw [←hX]
    have HX:=hid hX
    have HJ:=hid hj
    have HLL:=hid hll
    have HXL:=hid (show l=j+D.length by omega)
    clear hX hXl hll hj
    by_cases h4:l<4
    ·by_cases hk:i+1<N
     ·have hk2:(i:Int)<(N:Int)-1:=by omega
      clear hAB
      go_wp2_with fail
      go_roundw
      case rel=>exact ⟨j+1,by rw [HX.out];rfl,.inr ⟨decide_eq_true hk,by have:=HXL.out;omega⟩,by first|rfl|trivial⟩
      case measure=>rw [strSz_bs,strSz_bs,List.length_cons,←HLL.out];omega
     ·have hk2: ¬(i:Int)<(N:Int)-1:=by omega
      have HE9:=hid (show X=if decide (i+1<N)=true then padz 4 D else D by
       rw [HX.out];exact pad_end D j _ hdl HJ.out (fun h=>hk (of_decide_eq_true h.2)))
      clear hAN
      go_wp2_with fail
      go_roundw
      case rel=>exact ⟨i+1,by omega,by go_num,by rw [HST.out,HE9.out];simp only [decide_eq_true_eq],by first|rfl|trivial⟩
      case measure=>simp [intOf];omega
    ·have HE9:=hid (show X=if decide (i+1<N)=true then padz 4 D else D by
      rw [HX.out];exact pad_end D j _ hdl HJ.out (fun h=>h4 (by have:=HXL.out;omega)))
     clear hAN
     go_wp2_with fail
     go_roundw
     case rel=>exact ⟨i+1,by omega,by go_num,by rw [HST.out,HE9.out];simp only [decide_eq_true_eq],by first|rfl|trivial⟩
     case measure=>simp [intOf];omega
  ·have e:i=N:=by omega
   subst e
   by_cases hx:x=0
   ·have hi0:=HZ2.out hx
    have HF:=hid (show zTx x= [48] by rw [hTXx.out,hx,if_neg (by omega)];exact decD_small (n:=0) (by omega))
    have hT0:txt L i= []:=by rw [hi0];exact txt_zero L
    rw [hT0]
    have hTL:(bsOf ([]:List UInt8)).toList= []:=bs_toList []
    clear hT0 HE HZ HZ2 hTXx ST TL hx hi0
    go_wp2_with fail
    go_ret
    exact ⟨by rw [HF.out];rfl,yb⟩
   ·have hT0:=HE.out (by omega)
    rw [hT0]
    obtain ⟨c,r,hcr⟩: ∃c r,decD x.natAbs=c::r:=by
     cases hd:decD x.natAbs with
     |nil=>exact absurd hd (decD_ne _)
     |cons c r=>exact ⟨c,r,rfl⟩
    have htl:=TL.out i (by omega)
    rw [hT0] at htl
    obtain ⟨T,hT⟩: ∃T,T=decD x.natAbs:=⟨_,rfl⟩
    rw [←hT] at htl hcr ⊢
    have hTL:(bsOf T).toList=c::r:=by rw [bs_toList,hcr]
    have hAD:=add_dash (P:=Tryz.prog) T (by omega)
    have HF:=hid (show zTx x=if x<0 then 45::T else T by rw [hT];exact hTXx.out)
    clear hT0 HE HZ HZ2 hTXx ST TL hx hcr hT htl
    cases B
    ·have hneg: ¬x<0:=of_decide_eq_false HB.out.symm
     have HF2:=hid (show zTx x=T by rw [HF.out,if_neg hneg])
     clear HF HB hneg hAD
     go_wp2_with fail
     go_ret
     exact ⟨ret_bs HF2.out.symm,yb⟩
    ·have hneg:x<0:=of_decide_eq_true HB.out.symm
     have HF2:=hid (show zTx x=45::T by rw [HF.out,if_pos hneg])
     clear HF HB hneg
     go_wp2_with fail
     go_ret
     exact ⟨ret_bs HF2.out.symm,yb⟩
end Go.Proofs.YtehhegbkahnhgaaGreatDoor
namespace Go.Ulp
open Go.RowKit
def RetZD (t:TypeId) (w:World) (x:Int) (e:Ending) (w':World):Prop:= ∃v,e=.returned v∧ZD t w' x v∧Below w.heap.size w w'
def RetZD2 (t:TypeId) (w:World) (x y:Int) (e:Ending) (w':World):Prop:= ∃v,e=.returned v∧ZD2 t w' x y v∧Below w.heap.size w w'
theorem RetZ.zd {t:TypeId} {w:World} {x:Int} {e:Ending} {w':World} (h:RetZ t w x e w'):RetZD t w x e w':=by
 obtain ⟨ao,cap,h1,h2,h3⟩:=h;exact ⟨_,h1,⟨ao,cap,rfl,h2⟩,h3⟩
theorem RetZ2.zd {t:TypeId} {w:World} {x y:Int} {e:Ending} {w':World} (h:RetZ2 t w x y e w'):RetZD2 t w x y e w':=by
 obtain ⟨ao,cap,bo,cbp,h1,h2,h3,h4⟩:=h;exact ⟨_,h1,⟨ao,cap,bo,cbp,rfl,h2,h3⟩,h4⟩
theorem ZD2.parts {t:TypeId} {w:World} {x y:Int} {v:Value} (h:ZD2 t w x y v): ∃a b,v=.tuple #[a,b]∧ZD t w x a∧ZD t w y b:=by
 obtain ⟨ao,cap,bo,cbp,h1,h2,h3⟩:=h;exact ⟨_,_,h1,⟨ao,cap,rfl,h2⟩,⟨bo,cbp,rfl,h3⟩⟩
theorem ZD.cast {t:TypeId} {w:World} {x y:Int} {v:Value} (h:ZD t w x v) (e:x=y):ZD t w y v:=by rw [←e];exact h
theorem ZV.cast {tz ti:TypeId} {w:World} {x y:Int} {g:Nat} (h:ZV tz ti w g x) (e:x=y):ZV tz ti w g y:=by rw [←e];exact h
theorem ZV.lt {tz ti:TypeId} {w:World} {x:Int} {g:Nat} (h:ZV tz ti w g x):g<w.heap.size:=by obtain ⟨ao,cap,h1,h2⟩:=h;exact h1.lt
theorem zv_made {tz ti:TypeId} {w:World} {x:Int} {a:Option Addr} {c:Nat} (h:Nz ti w a c (zl x)) (g:Nat) (hg:g=w.heap.size):ZV tz ti (w.alloc (.cells #[.bool (zneg x),.slice a (zl x).length c] tz)) g x:=⟨a,c,ZL.made hg,h.below (below_alloc _ _)⟩
theorem zv_store1 {tz ti:TypeId} {w0 wn:World} {g:Nat} {n:Bool} {u:Value} {x:Int} {a:Option Addr} {c:Nat} (hne:tz≠ti) (hb:Below w0.heap.size w0 wn) (hg:w0.heap.size≤g) (z:ZL tz wn g n u) (h:Nz ti wn a c (zl x)):
 Below w0.heap.size w0 ((wn.setCell ⟨g,0,none⟩ (.bool (zneg x))).setCell ⟨g,1,none⟩ (.slice a (zl x).length c))∧ZV tz ti ((wn.setCell ⟨g,0,none⟩ (.bool (zneg x))).setCell ⟨g,1,none⟩ (.slice a (zl x).length c)) g x:=by
 exact ⟨(hb.setCell (p:=⟨g,0,none⟩) hg _).setCell (p:=⟨g,1,none⟩) hg _,ZV.store z h hne⟩
theorem zv_store2 {tz ti:TypeId} {w0 wn:World} {g k:Nat} {n n':Bool} {u u':Value} {x y:Int} {a b:Option Addr} {c d:Nat} (hne:tz≠ti) (hb:Below w0.heap.size w0 wn) (hg:w0.heap.size≤g) (hk:w0.heap.size≤k) (hgk:g≠k) (z:ZL tz wn g n u) (z':ZL tz wn k n' u') (h:Nz ti wn a c (zl x)) (h':Nz ti wn b d (zl y)):
 Below w0.heap.size w0 ((((wn.setCell ⟨g,0,none⟩ (.bool (zneg x))).setCell ⟨g,1,none⟩ (.slice a (zl x).length c)).setCell ⟨k,0,none⟩ (.bool (zneg y))).setCell ⟨k,1,none⟩ (.slice b (zl y).length d))∧ZV tz ti ((((wn.setCell ⟨g,0,none⟩ (.bool (zneg x))).setCell ⟨g,1,none⟩ (.slice a (zl x).length c)).setCell ⟨k,0,none⟩ (.bool (zneg y))).setCell ⟨k,1,none⟩ (.slice b (zl y).length d)) g x∧ZV tz ti ((((wn.setCell ⟨g,0,none⟩ (.bool (zneg x))).setCell ⟨g,1,none⟩ (.slice a (zl x).length c)).setCell ⟨k,0,none⟩ (.bool (zneg y))).setCell ⟨k,1,none⟩ (.slice b (zl y).length d)) k y:=by
 obtain ⟨h1,h2⟩:=zv_store1 hne hb hg z h
 have z2:=((z'.far ⟨g,0,none⟩ (.bool (zneg x)) hgk.symm).far ⟨g,1,none⟩ (.slice a (zl x).length c) hgk.symm)
 have n2:=h'.st2 z.2.2.2.2 hne (.bool (zneg x)) (.slice a (zl x).length c)
 obtain ⟨h3,h4⟩:=zv_store1 hne h1 hk z2 n2
 exact ⟨h3,h2.set2 z2.2.2.2.2 hne hgk _ _,h4⟩
theorem zv_made2 {tz ti:TypeId} {w:World} {x y:Int} {a b:Option Addr} {c d:Nat} (h:Nz ti w a c (zl x)) (h':Nz ti w b d (zl y)):
 Below w.heap.size w ((w.alloc (.cells #[.bool (zneg x),.slice a (zl x).length c] tz)).alloc (.cells #[.bool (zneg y),.slice b (zl y).length d] tz))∧ZV tz ti ((w.alloc (.cells #[.bool (zneg x),.slice a (zl x).length c] tz)).alloc (.cells #[.bool (zneg y),.slice b (zl y).length d] tz)) w.heap.size x∧ZV tz ti ((w.alloc (.cells #[.bool (zneg x),.slice a (zl x).length c] tz)).alloc (.cells #[.bool (zneg y),.slice b (zl y).length d] tz)) (w.heap.size+1) y:=
 ⟨below_trans (below_alloc _ _) (below_alloc _ _),(zv_made h _ rfl).below (below_alloc _ _),zv_made (h'.below (below_alloc _ _)) _ (by simp)⟩
theorem wp_worldZ {P:Program} {c:Code} {Q:Exit→Act→World→Prop} {a:Act} {w0:World} (F:World→Prop) (hF:F w0) (h: ∀w,F w→Code.wp P c Q a w):Code.wp P c Q a w0:=h w0 hF
end Go.Ulp
namespace Go.Proofs.YtehhegbkahnhgaaGreatDoor
open Go.RowKit Go.Ulp
set_option maxHeartbeats 1000000
set_option maxRecDepth 100000
theorem zaddD (v u:Value) (x y:Int) (w:World) (hv:ZD 3 w x v) (hu:ZD 3 w y u) (hx:(zl x).length≤4000000000) (hy:(zl y).length≤4000000000):Calls Tryz.prog 76 #[v,u] w (RetZD 3 w (x+y)):=by
 obtain ⟨a,c,rfl,h⟩:=hv;obtain ⟨b,d,rfl,k⟩:=hu
 exact (zadd_any a b c d x y w h k (by omega) (by omega)).mono fun _ _ h=>h.zd
theorem zsubD (v u:Value) (x y:Int) (w:World) (hv:ZD 3 w x v) (hu:ZD 3 w y u) (hx:(zl x).length≤4000000000) (hy:(zl y).length≤4000000000):Calls Tryz.prog 61 #[v,u] w (RetZD 3 w (x-y)):=by
 obtain ⟨a,c,rfl,h⟩:=hv;obtain ⟨b,d,rfl,k⟩:=hu
 exact (zsub_any a b c d x y w h k (by omega) (by omega)).mono fun _ _ h=>h.zd
theorem zmulD (v u:Value) (x y:Int) (w:World) (hv:ZD 3 w x v) (hu:ZD 3 w y u) (hx:(zl x).length≤1000000000) (hy:(zl y).length≤1000000000):Calls Tryz.prog 77 #[v,u] w (RetZD 3 w (x*y)):=by
 obtain ⟨a,c,rfl,h⟩:=hv;obtain ⟨b,d,rfl,k⟩:=hu
 exact (zmul_any a b c d x y w h k (by omega) (by omega)).mono fun _ _ h=>h.zd
theorem zdivD (v u:Value) (x y:Int) (w:World) (hv:ZD 3 w x v) (hu:ZD 3 w y u) (hx:(zl x).length≤4000000000) (hy:(zl y).length≤1000000000) (hy0:y≠0):Calls Tryz.prog 97 #[v,u] w (RetZD2 3 w (x/y) (x%y)):=by
 obtain ⟨a,c,rfl,h⟩:=hv;obtain ⟨b,d,rfl,k⟩:=hu
 exact (zdiv_any a b c d x y w h k hx hy hy0).mono fun _ _ h=>h.zd
theorem zcmpD (v u:Value) (x y:Int) (w:World) (hv:ZD 3 w x v) (hu:ZD 3 w y u):Calls Tryz.prog 80 #[v,u] w fun e w'=>e=.returned (.int .i64 (cmpI x y))∧Below w.heap.size w w':=by
 obtain ⟨a,c,rfl,h⟩:=hv;obtain ⟨b,d,rfl,k⟩:=hu
 exact zcmp_any a b c d x y w h k
theorem zsignD (v:Value) (x:Int) (w:World) (hv:ZD 3 w x v):Calls Tryz.prog 88 #[v] w fun e w'=>e=.returned (.int .i64 (cmpI x 0))∧Below w.heap.size w w':=by
 obtain ⟨a,c,rfl,h⟩:=hv
 exact zsign_any a c x w h
theorem zabsD (v:Value) (x:Int) (w:World) (hv:ZD 3 w x v):Calls Tryz.prog 81 #[v] w (RetZD 3 w (x.natAbs:Int)):=by
 obtain ⟨a,c,rfl,h⟩:=hv
 exact (zabs_any a c x w h).mono fun _ _ h=>h.zd
theorem zpowD (n:Nat) (w:World) (hn:n≤1000000000):Calls Tryz.prog 82 #[.int .i64 (n:Int)] w (RetZD 3 w (pw n)):=(zpow_any n w hn).mono fun _ _ h=>h.zd
theorem zND (n:Int) (h0:0≤n) (h1:n<9223372036854775808) (w:World):Calls Tryz.prog 38 #[.int .i64 n] w (RetZD 3 w n):=by
 obtain ⟨k,rfl⟩:=Int.eq_ofNat_of_zero_le h0
 exact (zN_any k (by omega) w).mono fun _ _ h=>h.zd
theorem zTextD (v:Value) (x:Int) (w:World) (hv:ZD 3 w x v) (hl:(zl x).length≤2000000000):Calls Tryz.prog 131 #[v] w fun e w'=>e=.returned (.string (bsOf (zTx x)))∧Below w.heap.size w w':=by
 obtain ⟨a,c,rfl,h⟩:=hv
 exact zText_any x a c w h hl
end Go.Proofs.YtehhegbkahnhgaaGreatDoor
namespace Go.Ulp
open Go.RowKit
theorem decD_lt (n:Nat):n<10^(decD n).length:=by
 induction n using Nat.strongRecOn with
 |_ n ih=>
  by_cases h:n<10
  ·rw [decD_small h];simpa using h
  ·have:=ih (n/10) (by omega)
   rw [decD_big h,List.length_append,List.length_singleton,Nat.pow_succ];omega
theorem decD_len_lt (n k:Nat) (h:n<10^k) (hk:0<k):(decD n).length≤k:=by
 obtain ⟨j,rfl⟩: ∃j,k=j+1:=⟨k-1,by omega⟩
 exact decD_len j n h
def tenZ (n:Nat):Int:=((10^n:Nat):Int)
theorem zl_len_ten (n:Nat):(zl (tenZ n)).length≤n+1:=by
 unfold zl
 refine (digs_len_le 10000 (by omega) _ _).2 ?_
 unfold tenZ
 rw [Int.natAbs_natCast]
 exact Nat.lt_of_lt_of_le (Nat.pow_lt_pow_right (by omega) (Nat.lt_succ_self n)) (Nat.pow_le_pow_left (by omega) _)
theorem zl_len_ten4 (n:Nat):(zl (tenZ n)).length≤n/4+1:=by
 unfold zl
 refine (digs_len_le 10000 (by omega) _ _).2 ?_
 unfold tenZ
 rw [Int.natAbs_natCast,show (10000:Nat)=10^4 from rfl,←Nat.pow_mul]
 exact Nat.pow_lt_pow_right (by omega) (by omega)
theorem tenZ_add (a b:Nat):tenZ a*tenZ b=tenZ (a+b):=by unfold tenZ;rw [←Int.natCast_mul,Nat.pow_add]
def dA (D:Dy):Nat:=D.1.natAbs*2^D.2.toNat
end Go.Ulp
namespace Go.Proofs.YtehhegbkahnhgaaGreatDoor
open Go.RowKit Go.Ulp
set_option maxHeartbeats 1000000
set_option maxRecDepth 100000
theorem zten_aux (f:Nat): ∀(n:Nat) (w:World),n≤f→n≤6000000000→Calls Tryz.prog 60 #[.int .i64 (n:Int)] w fun e w'=>RetZ 3 w (tenZ n) e w':=by
 induction f with
 |zero=>
  intro n w hn _
  obtain rfl:n=0:=by omega
  have O1:=hid (show ∀w,Calls Tryz.prog 38 #[.int .i64 1] w fun e w'=>RetZ 3 w (tenZ 0) e w' from fun w=>zN_any 1 (by omega) w)
  have zR0:ZL 47 (w.alloc (.cells #[.bool false,.slice none 0 0] 47)) w.heap.size false (.slice none 0 0):=ZL.made rfl
  have yb:Below w.heap.size w (w.alloc (.cells #[.bool false,.slice none 0 0] 47)):=below_alloc _ _
  go_enter Tryz.func60,Tryz.ntmps60
  go_wp2_with fail
  go_loopw [3,7] (fun s3 s7 wr=>s3=.int .i64 1∧s7=.int .i64 0∧wr=w.alloc (.cells #[.bool false,.slice none 0 0] 47)) (fun _ _ _=>0)
  case atStart=>exact ⟨rfl,rfl,rfl⟩
  case round=>
   obtain ⟨rfl,rfl,rfl⟩:=hrel
   go_wp2_with fail
   refine (O1.out _).mono ?_
   rintro e w1 ⟨ao,cap,rfl,hN,hb⟩
   have zR:=zR0.below hb
   have k0:=zR.1
   have k1:=zR.2.1
   have f0:=zR.2.2.1
   have f1:=zR.2.2.2.1
   have hs2:=zR.2.2.2.2
   go_wp2_with fail
   refine bodyPost_ret (by simp [results,Tryz.results60,go_sem,k0,k1];try rfl) rfl ?_
   exact ⟨_,_,rfl,(hN.setCell hs2 (by decide) _ _).setCell (hs2.setCell _ _) (by decide) _ _,((below_trans yb hb).setCell (by first|omega|(simp;done)|(simp;omega)) _).setCell (by first|omega|(simp;done)|(simp;omega)) _⟩
 |succ f ih=>
  intro n w hn hs
  by_cases h0:n=0
  ·subst h0;exact ih 0 w (by omega) (by omega)
  have IH:=hid ih
  clear ih
  have zR0:ZL 47 (w.alloc (.cells #[.bool false,.slice none 0 0] 47)) w.heap.size false (.slice none 0 0):=ZL.made rfl
  have yb:Below w.heap.size w (w.alloc (.cells #[.bool false,.slice none 0 0] 47)):=below_alloc _ _
  by_cases h8:n<8
  ·have ON:=hid (show ∀(P:Nat) w,P=10^n→Calls Tryz.prog 38 #[.int .i64 (P:Int)] w fun e w'=>RetZ 3 w (tenZ n) e w' from fun P w h=>by
    have h9:(10:Nat)^n≤10^8:=Nat.pow_le_pow_right (by omega) (by omega)
    have h7:(10:Nat)^8=100000000:=by decide
    subst h
    exact zN_any (10^n) (by omega) w)
   go_enter Tryz.func60,Tryz.ntmps60
   go_wp2_with fail
   go_loopw [3,7] (fun s3 s7 wr=> ∃i P:Nat,s3=.int .i64 (P:Int)∧s7=.int .i64 (i:Int)∧i≤n∧P=10^i∧wr=w.alloc (.cells #[.bool false,.slice none 0 0] 47)) (fun _ s7 _=>n-(intOf s7).toNat)
   case atStart=>exact ⟨0,1,rfl,rfl,by omega,rfl,rfl⟩
   case round=>
    obtain ⟨i,P,rfl,rfl,hi,hP,rfl⟩:=hrel
    by_cases hin:i<n
    ·have hPb:P≤100000000:=by
      have h9:(10:Nat)^i≤10^8:=Nat.pow_le_pow_right (by omega) (by omega)
      have h7:(10:Nat)^8=100000000:=by decide
      omega
     have HP:=hid (show P*10=10^(i+1) by rw [Nat.pow_succ,hP])
     clear hP
     go_wp2_with fail
     go_roundw
     case rel=>exact ⟨i+1,P*10,by go_num,by go_num,by omega,HP.out,by first|rfl|trivial⟩
     case measure=>simp [intOf];omega
    ·have hi2:i=n:=by omega
     subst hi2
     have ONP:=hid (fun w=>ON.out P w hP)
     clear hP ON
     go_wp2_with fail
     refine (ONP.out _).mono ?_
     rintro e w1 ⟨ao,cap,rfl,hN,hb⟩
     have zR:=zR0.below hb
     have k0:=zR.1
     have k1:=zR.2.1
     have f0:=zR.2.2.1
     have f1:=zR.2.2.2.1
     have hs2:=zR.2.2.2.2
     go_wp2_with fail
     refine bodyPost_ret (by simp [results,Tryz.results60,go_sem,k0,k1];try rfl) rfl ?_
     exact ⟨_,_,rfl,(hN.setCell hs2 (by decide) _ _).setCell (hs2.setCell _ _) (by decide) _ _,((below_trans yb hb).setCell (by first|omega|(simp;done)|(simp;omega)) _).setCell (by first|omega|(simp;done)|(simp;omega)) _⟩
  ·have h1: ¬(n:Int)<8:=by omega
   obtain ⟨q,hq⟩: ∃q,q=n/2:=⟨_,rfl⟩
   obtain ⟨r,hr⟩: ∃r,r=n-q:=⟨_,rfl⟩
   have e1:(n:Int)/2=(q:Int):=by omega
   have e2:(n:Int)-(q:Int)=(r:Int):=by omega
   have hq1:q≤f:=by omega
   have hr1:r≤f:=by omega
   have hq2:q≤6000000000:=by omega
   have hr2:r≤6000000000:=by omega
   have HS:=hid (show tenZ q*tenZ r=tenZ n by rw [tenZ_add];congr 1;omega)
   clear hq hr
   go_enter Tryz.func60,Tryz.ntmps60
   go_wp2_with fail
   refine (IH.out q _ hq1 hq2).mono ?_
   rintro e w1 ⟨ao,cap,rfl,hN,hb⟩
   go_wp2_with fail
   refine (IH.out r _ hr1 hr2).mono ?_
   rintro e w2 ⟨ao2,cap2,rfl,hN2,hb2⟩
   go_wp2_with fail
   refine (zmul_any _ _ _ _ _ _ _ (hN.below hb2) hN2 (Nat.le_trans (zl_len_ten4 q) (by omega)) (Nat.le_trans (zl_len_ten4 r) (by omega))).mono ?_
   rw [HS.out]
   rintro e w3 ⟨ao3,cap3,rfl,hN3,hb3⟩
   have zR:=((zR0.below hb).below hb2).below hb3
   have yb:=below_trans (below_trans yb hb) hb2
   have k0:=zR.1
   have k1:=zR.2.1
   have f0:=zR.2.2.1
   have f1:=zR.2.2.2.1
   have hs2:=zR.2.2.2.2
   go_wp2_with fail
   refine bodyPost_ret (by simp [results,Tryz.results60,go_sem,k0,k1];try rfl) rfl ?_
   exact ⟨_,_,rfl,(hN3.setCell hs2 (by decide) _ _).setCell (hs2.setCell _ _) (by decide) _ _,((below_trans yb hb3).setCell (by first|omega|(simp;done)|(simp;omega)) _).setCell (by first|omega|(simp;done)|(simp;omega)) _⟩
theorem zTenD (n:Nat) (w:World) (hn:n≤6000000000):Calls Tryz.prog 60 #[.int .i64 (n:Int)] w (RetZD 3 w (tenZ n)):=(zten_aux n n w (Nat.le_refl _) hn).mono fun _ _ h=>h.zd
end Go.Proofs.YtehhegbkahnhgaaGreatDoor
namespace Go.Ulp
open Go.RowKit
def PZ (ti:TypeId) (w:World) (x:PP) (v:Value):Prop:= ∃a c b d,v=.agg #[.bool false,.slice a (zl (x.1:Int)).length c,.bool false,.slice b (zl (x.2:Int)).length d]∧Nz ti w a c (zl (x.1:Int))∧Nz ti w b d (zl (x.2:Int))
theorem PZ.below {ti:TypeId} {w w':World} {x:PP} {v:Value} (h:PZ ti w x v) (hb:Below w.heap.size w w'):PZ ti w' x v:=by
 obtain ⟨a,c,b,d,e,h1,h2⟩:=h;exact ⟨a,c,b,d,e,h1.below hb,h2.below hb⟩
def RetPZ (ti:TypeId) (w:World) (x:PP) (e:Ending) (w':World):Prop:= ∃v,e=.returned v∧PZ ti w' x v∧Below w.heap.size w w'
def BC (tb:TypeId) (w:World) (g:Nat) (n0:Bool) (s0:Value) (n1:Bool) (s1:Value):Prop:=
 (w.cell? ⟨g,0,none⟩=some (.bool n0)∧w.cell? ⟨g,1,none⟩=some s0∧w.cell? ⟨g,2,none⟩=some (.bool n1)∧w.cell? ⟨g,3,none⟩=some s1)∧
  w.frozen? ⟨g,0,none⟩=false∧w.frozen? ⟨g,1,none⟩=false∧w.frozen? ⟨g,2,none⟩=false∧w.frozen? ⟨g,3,none⟩=false∧ElemIs w g tb
theorem BC.lt {tb:TypeId} {w:World} {g:Nat} {n0 n1:Bool} {s0 s1:Value} (h:BC tb w g n0 s0 n1 s1):g<w.heap.size:=World.block_lt_of_cell? w _ h.1.1
theorem BC.below {tb:TypeId} {w w':World} {g:Nat} {n0 n1:Bool} {s0 s1:Value} (h:BC tb w g n0 s0 n1 s1) (hb:Below w.heap.size w w'):BC tb w' g n0 s0 n1 s1:=by
 have hl:=h.lt
 obtain ⟨⟨h0,h1,h2,h3⟩,f0,f1,f2,f3,s⟩:=h
 exact ⟨⟨(hb.cell (p:=⟨g,0,none⟩) hl).trans h0,(hb.cell (p:=⟨g,1,none⟩) hl).trans h1,(hb.cell (p:=⟨g,2,none⟩) hl).trans h2,(hb.cell (p:=⟨g,3,none⟩) hl).trans h3⟩,
  (hb.frozen (p:=⟨g,0,none⟩) hl).trans f0,(hb.frozen (p:=⟨g,1,none⟩) hl).trans f1,(hb.frozen (p:=⟨g,2,none⟩) hl).trans f2,(hb.frozen (p:=⟨g,3,none⟩) hl).trans f3,s.below hb⟩
theorem BC.made {tb:TypeId} {w:World} {g:Nat} {n0 n1:Bool} {s0 s1:Value} (hg:g=w.heap.size):BC tb (w.alloc (.cells #[.bool n0,s0,.bool n1,s1] tb)) g n0 s0 n1 s1:=by
 subst hg
 refine ⟨⟨?_,?_,?_,?_⟩,?_,?_,?_,?_,ElemIs.made _ _ _⟩
 ·rw [World.cell?_alloc_at (hn:=rfl)];rfl
 ·rw [World.cell?_alloc_at (hn:=rfl)];rfl
 ·rw [World.cell?_alloc_at (hn:=rfl)];rfl
 ·rw [World.cell?_alloc_at (hn:=rfl)];rfl
 ·unfold World.frozen?;rw [heap_alloc_new];simp
 ·unfold World.frozen?;rw [heap_alloc_new];simp
 ·unfold World.frozen?;rw [heap_alloc_new];simp
 ·unfold World.frozen?;rw [heap_alloc_new];simp
def pu4 (w:World) (g:Nat) (u0 u1 u2 u3:Value):World:=(((w.setCell ⟨g,0,none⟩ u0).setCell ⟨g,1,none⟩ u1).setCell ⟨g,2,none⟩ u2).setCell ⟨g,3,none⟩ u3
theorem cell_pu4_far {w:World} {g k o:Nat} {u0 u1 u2 u3:Value} (h:k≠g):(pu4 w g u0 u1 u2 u3).cell? ⟨k,o,none⟩=w.cell? ⟨k,o,none⟩:=by
 unfold pu4
 rw [World.cell?_setCell_other (h:=fun e=>h (by injection e with e;exact e.symm)),World.cell?_setCell_other (h:=fun e=>h (by injection e with e;exact e.symm)),World.cell?_setCell_other (h:=fun e=>h (by injection e with e;exact e.symm)),World.cell?_setCell_other (h:=fun e=>h (by injection e with e;exact e.symm))]
theorem frozen_pu4 {w:World} {g:Nat} {a:Addr} {u0 u1 u2 u3:Value}:(pu4 w g u0 u1 u2 u3).frozen? a=w.frozen? a:=by
 unfold pu4
 rw [frozen_setCell,frozen_setCell,frozen_setCell,frozen_setCell]
theorem pu4_elem {w:World} {g k:Nat} {t:TypeId} (h:ElemIs w k t) (u0 u1 u2 u3:Value):ElemIs (pu4 w g u0 u1 u2 u3) k t:=(((h.setCell _ _).setCell _ _).setCell _ _).setCell _ _
theorem BC.far {tb:TypeId} {w:World} {g k:Nat} {n0 n1:Bool} {s0 s1:Value} (h:BC tb w k n0 s0 n1 s1) (hk:k≠g) (u0 u1 u2 u3:Value):BC tb (pu4 w g u0 u1 u2 u3) k n0 s0 n1 s1:=by
 obtain ⟨⟨h0,h1,h2,h3⟩,f0,f1,f2,f3,s⟩:=h
 refine ⟨⟨?_,?_,?_,?_⟩,?_,?_,?_,?_,pu4_elem s _ _ _ _⟩
 ·rw [cell_pu4_far hk];exact h0
 ·rw [cell_pu4_far hk];exact h1
 ·rw [cell_pu4_far hk];exact h2
 ·rw [cell_pu4_far hk];exact h3
 ·rw [frozen_pu4];exact f0
 ·rw [frozen_pu4];exact f1
 ·rw [frozen_pu4];exact f2
 ·rw [frozen_pu4];exact f3
theorem BC.put {tb:TypeId} {w:World} {g:Nat} {n0 n1:Bool} {s0 s1:Value} (h:BC tb w g n0 s0 n1 s1) (m0 m1:Bool) (u0 u1:Value):BC tb (pu4 w g (.bool m0) u0 (.bool m1) u1) g m0 u0 m1 u1:=by
 obtain ⟨⟨h0,h1,h2,h3⟩,f0,f1,f2,f3,s⟩:=h
 have ne: ∀i j:Nat,i≠j→(⟨g,i,none⟩:Addr)≠⟨g,j,none⟩:=fun i j hij e=>hij (by injection e)
 refine ⟨⟨?_,?_,?_,?_⟩,?_,?_,?_,?_,pu4_elem s _ _ _ _⟩
 ·unfold pu4
  rw [World.cell?_setCell_other (h:=ne _ _ (by decide)),World.cell?_setCell_other (h:=ne _ _ (by decide)),World.cell?_setCell_other (h:=ne _ _ (by decide))]
  exact World.cell?_setCell_same (w:=w) _ _ h0
 ·unfold pu4
  rw [World.cell?_setCell_other (h:=ne _ _ (by decide)),World.cell?_setCell_other (h:=ne _ _ (by decide))]
  refine World.cell?_setCell_same _ _ _ (u:=s0) ?_
  rw [World.cell?_setCell_other (h:=ne _ _ (by decide))];exact h1
 ·unfold pu4
  rw [World.cell?_setCell_other (h:=ne _ _ (by decide))]
  refine World.cell?_setCell_same _ _ _ (u:=.bool n1) ?_
  rw [World.cell?_setCell_other (h:=ne _ _ (by decide)),World.cell?_setCell_other (h:=ne _ _ (by decide))];exact h2
 ·unfold pu4
  refine World.cell?_setCell_same _ _ _ (u:=s1) ?_
  rw [World.cell?_setCell_other (h:=ne _ _ (by decide)),World.cell?_setCell_other (h:=ne _ _ (by decide)),World.cell?_setCell_other (h:=ne _ _ (by decide))];exact h3
 ·rw [frozen_pu4];exact f0
 ·rw [frozen_pu4];exact f1
 ·rw [frozen_pu4];exact f2
 ·rw [frozen_pu4];exact f3
theorem Nz.pu4 {ti tb:TypeId} {w:World} {a:Option Addr} {c:Nat} {L:List Nat} (h:Nz ti w a c L) {g:Nat} (s:ElemIs w g tb) (hne:tb≠ti) (u0 u1 u2 u3:Value):Nz ti (Go.Ulp.pu4 w g u0 u1 u2 u3) a c L:=
 (((h.setCell s hne _ _).setCell (s.setCell _ _) hne _ _).setCell ((s.setCell _ _).setCell _ _) hne _ _).setCell (((s.setCell _ _).setCell _ _).setCell _ _) hne _ _
theorem below_pu4 {B:Nat} {w w':World} (h:Below B w w') {g:Nat} (hg:B≤g) (u0 u1 u2 u3:Value):Below B w (Go.Ulp.pu4 w' g u0 u1 u2 u3):=
 (((h.setCell (p:=⟨g,0,none⟩) hg _).setCell (p:=⟨g,1,none⟩) hg _).setCell (p:=⟨g,2,none⟩) hg _).setCell (p:=⟨g,3,none⟩) hg _
def BV (tb ti:TypeId) (w:World) (g:Nat) (x:PP):Prop:= ∃a c b d,BC tb w g false (.slice a (zl (x.1:Int)).length c) false (.slice b (zl (x.2:Int)).length d)∧Nz ti w a c (zl (x.1:Int))∧Nz ti w b d (zl (x.2:Int))
theorem BV.lt {tb ti:TypeId} {w:World} {g:Nat} {x:PP} (h:BV tb ti w g x):g<w.heap.size:=by obtain ⟨a,c,b,d,h1,-⟩:=h;exact h1.lt
theorem BV.below {tb ti:TypeId} {w w':World} {g:Nat} {x:PP} (h:BV tb ti w g x) (hb:Below w.heap.size w w'):BV tb ti w' g x:=by
 obtain ⟨a,c,b,d,h1,h2,h3⟩:=h;exact ⟨a,c,b,d,h1.below hb,h2.below hb,h3.below hb⟩
theorem BV.made {tb ti:TypeId} {w:World} {g:Nat} {x:PP} {a b:Option Addr} {c d:Nat} (hg:g=w.heap.size) (h1:Nz ti w a c (zl (x.1:Int))) (h2:Nz ti w b d (zl (x.2:Int))):
 BV tb ti (w.alloc (.cells #[.bool false,.slice a (zl (x.1:Int)).length c,.bool false,.slice b (zl (x.2:Int)).length d] tb)) g x:=
 ⟨a,c,b,d,BC.made hg,h1.below (below_alloc _ _),h2.below (below_alloc _ _)⟩
theorem BV.far {tb ti:TypeId} {w:World} {g k:Nat} {x:PP} (h:BV tb ti w k x) (hk:k≠g) (s:ElemIs w g tb) (hne:tb≠ti) (u0 u1 u2 u3:Value):BV tb ti (pu4 w g u0 u1 u2 u3) k x:=by
 obtain ⟨a,c,b,d,h1,h2,h3⟩:=h
 exact ⟨a,c,b,d,h1.far hk _ _ _ _,h2.pu4 s hne _ _ _ _,h3.pu4 s hne _ _ _ _⟩
theorem BC.put_bv {tb ti:TypeId} {w:World} {g:Nat} {n0 n1:Bool} {s0 s1:Value} {x:PP} {a b:Option Addr} {c d:Nat} (h:BC tb w g n0 s0 n1 s1) (hne:tb≠ti) (h1:Nz ti w a c (zl (x.1:Int))) (h2:Nz ti w b d (zl (x.2:Int))):
 BV tb ti (pu4 w g (.bool false) (.slice a (zl (x.1:Int)).length c) (.bool false) (.slice b (zl (x.2:Int)).length d)) g x:=
 ⟨a,c,b,d,h.put _ _ _ _,h1.pu4 h.2.2.2.2.2 hne _ _ _ _,h2.pu4 h.2.2.2.2.2 hne _ _ _ _⟩
theorem zl_le10 {x E:Nat} (h:x≤10^E):(zl (x:Int)).length≤E/4+1:=
 Nat.le_trans (zl_len_le (x:=((x:Nat):Int)) (y:=tenZ E) (by unfold tenZ;rw [Int.natAbs_natCast,Int.natAbs_natCast];exact h)) (zl_len_ten4 E)
theorem mul10 {x y E F:Nat} (h:x≤10^E) (k:y≤10^F):x*y≤10^(E+F):=by rw [Nat.pow_add];exact Nat.mul_le_mul h k
def Fact.pz (ti:TypeId) (x:PP):Fact:=⟨fun v w=>PZ ti w x v,fun _ _ _ h hb=>h.below hb⟩
theorem ZD.ofN {ti:TypeId} {w:World} {x:Nat} {a:Option Addr} {c:Nat} (h:Nz ti w a c (zl (x:Int))):ZD ti w (x:Int) (.agg #[.bool false,.slice a (zl (x:Int)).length c]):=⟨a,c,by rw [zneg_nat],h⟩
theorem ZD.toN {ti:TypeId} {w:World} {x:Nat} {v:Value} (h:ZD ti w (x:Int) v): ∃a c,v=.agg #[.bool false,.slice a (zl (x:Int)).length c]∧Nz ti w a c (zl (x:Int)):=by
 obtain ⟨a,c,rfl,h1⟩:=h;exact ⟨a,c,by rw [zneg_nat],h1⟩
theorem QL.zvN {tq ti:TypeId} {w:World} {g x:Nat} {a:Option Addr} {c:Nat} {k:Int} (h:QL tq w g false (.slice a (zl (x:Int)).length c) k) (n:Nz ti w a c (zl (x:Int))):ZV tq ti w g (x:Int):=⟨a,c,by rw [zneg_nat];exact h.1,n⟩
theorem PZ.mk {ti:TypeId} {w:World} {x:PP} {a b:Option Addr} {c d:Nat} (h1:Nz ti w a c (zl (x.1:Int))) (h2:Nz ti w b d (zl (x.2:Int))):PZ ti w x (.agg #[.bool false,.slice a (zl (x.1:Int)).length c,.bool false,.slice b (zl (x.2:Int)).length d]):=⟨a,c,b,d,rfl,h1,h2⟩
end Go.Ulp
namespace Go.Proofs.YtehhegbkahnhgaaGreatDoor
open Go.RowKit Go.Ulp
set_option maxHeartbeats 2000000
set_option maxRecDepth 100000
theorem zmulN (v u:Value) (x y:Nat) (w:World) (hv:ZD 3 w (x:Int) v) (hu:ZD 3 w (y:Int) u) (hx:(zl (x:Int)).length≤1000000000) (hy:(zl (y:Int)).length≤1000000000):Calls Tryz.prog 77 #[v,u] w (RetZD 3 w ((x*y:Nat):Int)):=by
 have h:=zmulD v u x y w hv hu hx hy
 rw [←Int.natCast_mul] at h;exact h
theorem zaddN (v u:Value) (x y:Nat) (w:World) (hv:ZD 3 w (x:Int) v) (hu:ZD 3 w (y:Int) u) (hx:(zl (x:Int)).length≤4000000000) (hy:(zl (y:Int)).length≤4000000000):Calls Tryz.prog 76 #[v,u] w (RetZD 3 w ((x+y:Nat):Int)):=by
 have h:=zaddD v u x y w hv hu hx hy
 rw [←Int.natCast_add] at h;exact h
theorem zdivN (v u:Value) (x y:Nat) (w:World) (hv:ZD 3 w (x:Int) v) (hu:ZD 3 w (y:Int) u) (hx:(zl (x:Int)).length≤4000000000) (hy:(zl (y:Int)).length≤1000000000) (h0:0<y):Calls Tryz.prog 97 #[v,u] w (RetZD2 3 w ((x/y:Nat):Int) ((x%y:Nat):Int)):=by
 have h:=zdivD v u x y w hv hu hx hy (by omega)
 rw [←Int.natCast_ediv,←Int.natCast_emod] at h;exact h
theorem zTenN (n:Nat) (w:World) (hn:n≤6000000000):Calls Tryz.prog 60 #[.int .i64 (n:Int)] w (RetZD 3 w ((10^n:Nat):Int)):=zTenD n w hn
theorem up1_any (v:Value) (x:Nat) (w:World) (hv:ZD 3 w (x:Int) v) (hl:(zl (x:Int)).length≤4000000000):Calls Tryz.prog 102 #[v] w (RetZD 3 w ((x+1:Nat):Int)):=by
 obtain ⟨a,c,rfl,h⟩:=hv
 have zA:ZV 47 3 ((w.alloc (.cells #[.bool (zneg (x:Int)),.slice a (zl (x:Int)).length c] 47)).alloc (.cells #[.bool false,.slice none 0 0] 47)) w.heap.size (x:Int):=(zv_made h _ rfl).below (below_alloc _ _)
 have zR:ZL 47 ((w.alloc (.cells #[.bool (zneg (x:Int)),.slice a (zl (x:Int)).length c] 47)).alloc (.cells #[.bool false,.slice none 0 0] 47)) (w.heap.size+1) false (.slice none 0 0):=ZL.made (by simp)
 have yb0:Below w.heap.size w ((w.alloc (.cells #[.bool (zneg (x:Int)),.slice a (zl (x:Int)).length c] 47)).alloc (.cells #[.bool false,.slice none 0 0] 47)):=by (repeat' first|(with_reducible first|assumption|apply bR|apply bA|apply bN|apply bD|apply bL|apply bS)|refine bT ?_ (by assumption)|go_size)
 have l1:(zl 1).length≤4000000000:=by decide
 have HX:=hid (show (x:Int)+1=((x+1:Nat):Int) from by omega)
 clear h
 go_enter Tryz.func102,Tryz.ntmps102
 go_upto_region 1 with fail
 refine wp_region_grow 3 [3,4,5] [Fact.z 3 ((x:Int)),Fact.z 3 (1),Fact.z 3 (((x+1:Nat):Int))] (by kernel_rfl) (by kernel_rfl) ⟨?o0,?o1,?o2,trivial⟩ ?after
 case o0=>(refine oQ rfl ?_;intro ρ w1 R hcon hfn hρ hb hp hR;have e1:ρ (.tmp 1)=.pointer (some ⟨w.heap.size,0,none⟩):=hρ.tmp 1 rfl;obtain ⟨ya9,yc9,yj9,yn9⟩:=ZV.below zA hb;obtain ⟨j90,j91,-⟩:=yj9;clear hρ hp;unfold OpRun;go_simp;exact hR _ _ (Below.refl _ _) ⟨ya9,yc9,rfl,yn9⟩)
 case o1=>(refine oQ rfl ?_;intro ρ w1 R hcon hfn hρ hb hp hR;clear hρ hp;unfold OpRun;go_simp;(refine (zND _ (by omega) (by omega) _).mono ?_;rintro e wn ⟨v9,rfl,hz9,hbn⟩;exact ⟨_,rfl,hR _ _ hbn hz9⟩))
 case o2=>(refine oQ rfl ?_;intro ρ w1 R hcon hfn hρ hb hp hR;have f3:=hp 0 3 rfl rfl;have f4:=hp 1 4 rfl rfl;clear hρ hp;unfold OpRun;go_simp;(refine (zaddD _ _ _ _ _ f3 f4 (by first|assumption|omega) (by first|assumption|omega)).mono ?_;rintro e wn ⟨v9,rfl,hz9,hbn⟩;exact ⟨_,rfl,hR _ _ hbn (ZD.cast hz9 HX.out)⟩))
 case after=>
  intro u wn hb hf
  have f5:=hf 2 5 (by omega) rfl
  clear hf
  simp only [putAll,Act.put,List.setIfInBounds_toArray,List.set_cons_zero,List.set_cons_succ,List.drop_succ_cons,List.drop_zero,List.drop_nil]
  obtain ⟨a5,c5,e5,hN⟩:=f5
  rw [e5]
  clear e5
  have zR2:=zR.below hb
  obtain ⟨k0,k1,f0,f1,hs2⟩:=id zR2
  go_wp2_with fail
  refine bodyPost_ret (by simp [results,Tryz.results102,go_sem,k0,k1];try rfl) rfl ?_
  exact ⟨_,rfl,⟨a5,c5,rfl,hN.st2 hs2 (by decide) _ _⟩,((below_trans yb0 hb).setCell (by first|omega|(simp;done)|(simp;omega)) _).setCell (by first|omega|(simp;done)|(simp;omega)) _⟩
theorem bothMul_any (x y:PP) (t E:Nat) (v u:Value) (w:World) (hv:PZ 3 w x v) (hu:PZ 3 w y u) (hE:E≤3900000000) (ht:t≤3900000000) (x1:x.1≤10^E) (x2:x.2≤10^E) (y1:y.1≤10^E) (y2:y.2≤10^E):
 Calls Tryz.prog 98 #[v,u,.int .i64 (t:Int)] w (RetPZ 3 w (bMul x y (10^t))):=by
 obtain ⟨xl,xh⟩:=x
 obtain ⟨yl,yh⟩:=y
 simp only at x1 x2 y1 y2
 obtain ⟨a0,c0,a1,c1,rfl,n0,n1⟩:=hv
 obtain ⟨a2,c2,a3,c3,rfl,n2,n3⟩:=hu
 simp only at n0 n1 n2 n3
 have hD:=Nat.pow_pos (n:=t) (show 0<10 by omega)
 have lD:=zl_le10 (x:=10^t) (E:=t) (Nat.le_refl _)
 have M1:=hid (fun v u w h k=>zmulN v u xl yl w h k (by have:=zl_le10 x1;omega) (by have:=zl_le10 y1;omega))
 have M2:=hid (fun v u w h k=>zmulN v u xh yh w h k (by have:=zl_le10 x2;omega) (by have:=zl_le10 y2;omega))
 have TN:=hid (fun w=>zTenN t w (by omega))
 have b1:=mul10 x1 y1
 have b2:=mul10 x2 y2
 have D1:=hid (fun v u w h k=>zdivN v u (xl*yl) (10^t) w h k (by have:=zl_le10 b1;omega) (by omega) hD)
 have D2:=hid (fun v u w h k=>zdivN v u (xh*yh) (10^t) w h k (by have:=zl_le10 b2;omega) (by omega) hD)
 have U1:=hid (fun v w h=>up1_any v (xh*yh/10^t) w h (by have:=zl_le10 (Nat.le_trans (Nat.div_le_self (xh*yh) (10^t)) b2);omega))
 have HE:=hid (show bMul (xl,xh) (yl,yh) (10^t)=(xl*yl/10^t,xh*yh/10^t+1) from rfl)
 rw [HE.out]
 clear HE
 generalize 10^t=D at *
 generalize xl*yl=P1 at *
 generalize xh*yh=P2 at *
 generalize P1%D=R1 at *
 generalize P2%D=R2 at *
 generalize P1/D=Q1 at *
 generalize P2/D=Q2 at *
 clear x1 x2 y1 y2 b1 b2 lD hD
 have zA:BC 63 (((w.alloc (.cells #[.bool false,.slice a0 (zl (xl:Int)).length c0,.bool false,.slice a1 (zl (xh:Int)).length c1] 63)).alloc (.cells #[.bool false,.slice a2 (zl (yl:Int)).length c2,.bool false,.slice a3 (zl (yh:Int)).length c3] 63)).alloc (.cells #[.bool false,.slice none 0 0,.bool false,.slice none 0 0] 63)) w.heap.size false (.slice a0 (zl (xl:Int)).length c0) false (.slice a1 (zl (xh:Int)).length c1):=((BC.made rfl).below (below_alloc _ _)).below (below_alloc _ _)
 have zB:BC 63 (((w.alloc (.cells #[.bool false,.slice a0 (zl (xl:Int)).length c0,.bool false,.slice a1 (zl (xh:Int)).length c1] 63)).alloc (.cells #[.bool false,.slice a2 (zl (yl:Int)).length c2,.bool false,.slice a3 (zl (yh:Int)).length c3] 63)).alloc (.cells #[.bool false,.slice none 0 0,.bool false,.slice none 0 0] 63)) (w.heap.size+1) false (.slice a2 (zl (yl:Int)).length c2) false (.slice a3 (zl (yh:Int)).length c3):=(BC.made (by simp)).below (below_alloc _ _)
 have zR:BC 63 (((w.alloc (.cells #[.bool false,.slice a0 (zl (xl:Int)).length c0,.bool false,.slice a1 (zl (xh:Int)).length c1] 63)).alloc (.cells #[.bool false,.slice a2 (zl (yl:Int)).length c2,.bool false,.slice a3 (zl (yh:Int)).length c3] 63)).alloc (.cells #[.bool false,.slice none 0 0,.bool false,.slice none 0 0] 63)) (w.heap.size+2) false (.slice none 0 0) false (.slice none 0 0):=BC.made (by simp)
 have yb0:Below w.heap.size w (((w.alloc (.cells #[.bool false,.slice a0 (zl (xl:Int)).length c0,.bool false,.slice a1 (zl (xh:Int)).length c1] 63)).alloc (.cells #[.bool false,.slice a2 (zl (yl:Int)).length c2,.bool false,.slice a3 (zl (yh:Int)).length c3] 63)).alloc (.cells #[.bool false,.slice none 0 0,.bool false,.slice none 0 0] 63)):=by (repeat' first|(with_reducible first|assumption|apply bR|apply bA|apply bN|apply bD|apply bL|apply bS)|refine bT ?_ (by assumption)|go_size)
 have H0:=hid n0
 have H1:=hid n1
 have H2:=hid n2
 have H3:=hid n3
 clear n0 n1 n2 n3
 go_enter Tryz.func98,Tryz.ntmps98
 go_upto_region 1 with fail
 obtain ⟨⟨i0,i1,i2,i3⟩,-⟩:=id zA
 obtain ⟨⟨j0,j1,j2,j3⟩,-⟩:=id zB
 go_upto_region 2 with (first
  |(go_at_call 77;(with_reducible refine (M1.out _ _ _ (ZD.ofN (H0.out.below yb0)) (ZD.ofN (H2.out.below yb0))).mono ?_);rintro en w1 ⟨v1,rfl,hv1,hb1⟩)
  |(go_at_call 60;(with_reducible refine (TN.out _).mono ?_);rintro en w2 ⟨v2,rfl,hv2,hb2⟩)
  |(go_at_call 97;(with_reducible refine (D1.out _ _ _ (hv1.below hb2) hv2).mono ?_);rintro en w3 ⟨v3,rfl,⟨a4,c4,a5,c5,rfl,n4,n5⟩,hb3⟩))
 obtain ⟨yb4,z7,z8⟩:=zv_made2 (tz:=47) n4 n5
 have yb3:=below_trans (below_trans (below_trans (below_trans yb0 hb1) hb2) hb3) yb4
 have zB3:=((((zB.below hb1).below hb2).below hb3).below yb4)
 have zA3:=((((zA.below hb1).below hb2).below hb3).below yb4)
 have zR3:=((((zR.below hb1).below hb2).below hb3).below yb4)
 obtain ⟨g7,hg7⟩: ∃g,g=w3.heap.size:=⟨_,rfl⟩
 rw [←hg7] at z7 z8 ⊢
 refine wp_worldZ (fun WW=>Below w.heap.size w WW∧ZV 47 3 WW g7 (Q1:Int)∧BC 63 WW w.heap.size false (.slice a0 (zl (xl:Int)).length c0) false (.slice a1 (zl (xh:Int)).length c1)∧BC 63 WW (w.heap.size+1) false (.slice a2 (zl (yl:Int)).length c2) false (.slice a3 (zl (yh:Int)).length c3)∧BC 63 WW (w.heap.size+2) false (.slice none 0 0) false (.slice none 0 0)) ⟨yb3,z7,zA3,zB3,zR3⟩ ?_
 clear hb1 hb2 hb3 yb4 z7 z8 yb3 zA3 zB3 zR3 n4 n5 i0 i1 i2 i3 j0 j1 j2 j3 zA zB zR hg7 hv1 hv2 yb0 M1 D1
 intro W3 ⟨yb3,z7,zA,zB,zR⟩
 obtain ⟨⟨i0,i1,i2,i3⟩,-⟩:=id zA
 obtain ⟨⟨j0,j1,j2,j3⟩,-⟩:=id zB
 go_upto_region 3 with (first
  |(go_at_call 77;(with_reducible refine (M2.out _ _ _ (ZD.ofN (H1.out.below yb3)) (ZD.ofN (H3.out.below yb3))).mono ?_);rintro en w1 ⟨v1,rfl,hv1,hb1⟩)
  |(go_at_call 60;(with_reducible refine (TN.out _).mono ?_);rintro en w2 ⟨v2,rfl,hv2,hb2⟩)
  |(go_at_call 97;(with_reducible refine (D2.out _ _ _ (hv1.below hb2) hv2).mono ?_);rintro en w3 ⟨v3,rfl,⟨a4,c4,a5,c5,rfl,n4,n5⟩,hb3⟩))
 obtain ⟨yb4,z9,z10⟩:=zv_made2 (tz:=47) n4 n5
 have yb5:=below_trans (below_trans (below_trans (below_trans yb3 hb1) hb2) hb3) yb4
 have z73:=((((z7.below hb1).below hb2).below hb3).below yb4)
 have zR3:=((((zR.below hb1).below hb2).below hb3).below yb4)
 obtain ⟨g9,hg9⟩: ∃g,g=w3.heap.size:=⟨_,rfl⟩
 rw [←hg9] at z9 z10 ⊢
 refine wp_worldZ (fun WW=>Below w.heap.size w WW∧ZV 47 3 WW g7 (Q1:Int)∧ZV 47 3 WW g9 (Q2:Int)∧BC 63 WW (w.heap.size+2) false (.slice none 0 0) false (.slice none 0 0)) ⟨yb5,z73,z9,zR3⟩ ?_
 clear hb1 hb2 hb3 yb4 z73 z9 z10 yb5 zR3 n4 n5 i0 i1 i2 i3 j0 j1 j2 j3 zA zB zR hg9 hv1 hv2 yb3 z7 M2 D2 TN
 intro W4 ⟨yb4,z7,z9,zR⟩
 refine wp_region_grow 4 [33,34,35,36] [Fact.z 3 ((Q1:Int)),Fact.z 3 ((Q2:Int)),Fact.z 3 ((Q2+1:Nat):Int),Fact.pz 3 (Q1,Q2+1)] (by kernel_rfl) (by kernel_rfl) ⟨?o0,?o1,?o2,?o3,trivial⟩ ?after
 case o0=>(refine oQ rfl ?_;intro ρ w1 R hcon hfn hρ hb hp hR;have e7:ρ (.tmp 7)=.pointer (some ⟨g7,0,none⟩):=hρ.tmp 7 rfl;obtain ⟨ya9,yc9,yj9,yn9⟩:=ZV.below z7 hb;obtain ⟨j90,j91,-⟩:=yj9;clear hρ hp;unfold OpRun;go_simp;exact hR _ _ (Below.refl _ _) ⟨ya9,yc9,rfl,yn9⟩)
 case o1=>(refine oQ rfl ?_;intro ρ w1 R hcon hfn hρ hb hp hR;have e9:ρ (.tmp 9)=.pointer (some ⟨g9,0,none⟩):=hρ.tmp 9 rfl;obtain ⟨ya9,yc9,yj9,yn9⟩:=ZV.below z9 hb;obtain ⟨j90,j91,-⟩:=yj9;clear hρ hp;unfold OpRun;go_simp;exact hR _ _ (Below.refl _ _) ⟨ya9,yc9,rfl,yn9⟩)
 case o2=>(refine oQ rfl ?_;intro ρ w1 R hcon hfn hρ hb hp hR;have f34:=hp 1 34 rfl rfl;clear hρ hp;unfold OpRun;go_simp;(refine (U1.out _ _ f34).mono ?_;rintro e wn ⟨v9,rfl,hv9,hbn⟩;exact ⟨_,rfl,hR _ _ hbn hv9⟩))
 case o3=>(refine oQ rfl ?_;intro ρ w1 R hcon hfn hρ hb hp hR;have f33:=hp 0 33 rfl rfl;have f35:=hp 2 35 rfl rfl;clear hρ hp;unfold OpRun;go_simp;(obtain ⟨a91,c91,e91,n91⟩:=ZD.toN f33;obtain ⟨a92,c92,e92,n92⟩:=ZD.toN f35;rw [e91,e92];exact hR _ _ (Below.refl _ _) (PZ.mk (x:=(Q1,Q2+1)) n91 n92)))
 case after=>
  intro u wn hb hf
  have f36:=hf 3 36 (by omega) rfl
  clear hf
  simp only [putAll,Act.put,List.setIfInBounds_toArray,List.set_cons_zero,List.set_cons_succ,List.drop_succ_cons,List.drop_zero,List.drop_nil]
  obtain ⟨a36,c36,a37,c37,e36,n36,n37⟩:=f36
  rw [e36]
  clear e36
  have zR2:=zR.below hb
  obtain ⟨⟨k0,k1,k2,k3⟩,f0,f1,f2,f3,hs2⟩:=id zR2
  go_wp2_with fail
  refine bodyPost_ret (by simp [results,Tryz.results98,go_sem,k0,k1,k2,k3];try rfl) rfl ?_
  exact ⟨_,rfl,PZ.mk (x:=(Q1,Q2+1)) (n36.pu4 hs2 (by decide) _ _ _ _) (n37.pu4 hs2 (by decide) _ _ _ _),below_pu4 (below_trans yb4 hb) (by omega) _ _ _ _⟩
end Go.Proofs.YtehhegbkahnhgaaGreatDoor
