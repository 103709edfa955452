/- TopTold: what the proof leans on, part 21 (Wa7 Wa8 Wa9 Wb10). -/
import Derived.Test.YtfphmlmgjhebjaaGreatDoorKTopTold11
import Derived.Test.YtfphmlmgjhebjaaGreatDoorKTopTold20
set_option linter.unusedVariables false
set_option linter.unusedSimpArgs false
namespace Go.Ulp
open Go.RowKit
def wvP (pr:Int):Nat:=if pr<0 then 6 else pr.toNat
def wvS (verb:Int) (al:Bool) (pr x pd:Int):List UInt8:=
 if verb=102 then fxT x (wvP pr) 0 else if verb=101 then scT x (wvP pr) pd 0 else if verb=103 then gnT al x (max (wvP pr) 1-1) pd else if pr<0 then hexTx x else hexFx x (wvP pr) 0
def alS (c:UInt8) (S:List UInt8):List UInt8:=if S.contains 46=true then S else aheadB c S++46::fromB c S
def wvT (verb:Int) (al:Bool) (pr x pd:Int):List UInt8:=if al=true then alS (if verb=97 then 112 else 101) (wvS verb al pr x pd) else wvS verb al pr x pd
theorem wzT_len (L:List UInt8):(wzT L).length≤L.length:=by
 unfold wzT wzM
 have h:=congrArg List.length (ahead_from 101 L)
 rw [List.length_append] at h ⊢
 have k:(if (aheadB 101 L).contains 46=true then Lib.trimSuffix (Lib.trimRightB (aheadB 101 L) 48) [46] else aheadB 101 L).length≤(aheadB 101 L).length:=by
  split
  ·have:=trimR_len (aheadB 101 L) 48
   unfold Lib.trimSuffix
   split
   ·rw [List.length_take];omega
   ·exact this
  ·exact Nat.le_refl _
 omega
theorem gnT_len (al:Bool) (x pd:Int) (k:Nat) (h0:0≤x) (h1:x<18446744073709551616) (hk:k<800) (hp:(fv x).1≠0→IsDec (dA (fv x)) (dB (fv x)) pd) (hb: -1200≤pd∧pd≤1200):(gnT al x k pd).length≤3000:=by
 have g:(gnS x k pd).length≤3000:=by
  unfold gnS
  split
  ·rename_i h
   have:=scP_bd x k pd 0 hb
   exact fxT_len x 0 _ h0 h1 (by omega)
  ·exact scT_len x 0 pd k hk hp hb
 unfold gnT
 split
 ·exact g
 ·exact Nat.le_trans (wzT_len _) g
theorem hfT_len (x mode:Int) (n:Nat) (h0:0≤x) (h1:x<18446744073709551616) (hn:n≤1000) (hz:(fv x).1≠0):(hfT x n mode).length≤2000:=by
 unfold hfT hxT hxP
 obtain ⟨-,-,h3,-,-⟩:=hf_main (fv x) n mode (fv_isNh x) hz
 obtain ⟨-,a,b,c⟩:=fv_bd x h0 h1
 have hk: -1080≤hfK (fv x)∧hfK (fv x)≤1080:=by
  have:=(bl_le (fv x).1.natAbs 53).2 a
  unfold hfK;omega
 have d:=decD_len 4 (hfK (hfD (fv x) n mode)).natAbs (by omega)
 have e:=dsh_len (negB x) (48::120::49::((if n=0 then [] else 46::hxD n (hfM (hfD (fv x) n mode) n))++(112::(if hfK (hfD (fv x) n mode)<0 then 45 else 43)::decD (hfK (hfD (fv x) n mode)).natAbs)))
 rw [List.length_cons,List.length_cons,List.length_cons,List.length_append,List.length_cons,List.length_cons] at e
 have f:(if n=0 then ([]:List UInt8) else 46::hxD n (hfM (hfD (fv x) n mode) n)).length≤n+1:=by
  split
  ·simp
  ·rw [List.length_cons,hxD_len];omega
 omega
theorem hexTx_len (x:Int) (h0:0≤x) (h1:x<18446744073709551616):(hexTx x).length≤2000:=by
 unfold hexTx
 split
 ·simp
 split
 ·have:=dsh_len (negB x) [105,110,102];simp at this ⊢;omega
 split
 ·have:=dsh_len (negB x) [48,120,48,112,43,48];simp at this ⊢;omega
 ·rename_i h
  refine hfT_len x 3 _ h0 h1 ?_ h
  have a:=(fv_bd x h0 h1).2.1
  have:=(bl_le (fv x).1.natAbs 53).2 a
  unfold hfN;omega
theorem hexFx_len (x mode:Int) (n:Nat) (h0:0≤x) (h1:x<18446744073709551616) (hn:n≤1000):(hexFx x n mode).length≤2000:=by
 unfold hexFx
 split
 ·unfold hxZ
  have e:=dsh_len (negB x) (48::120::48::((if n=0 then [] else 46::List.replicate n 48)++ [112,43,48]))
  rw [List.length_cons,List.length_cons,List.length_cons,List.length_append] at e
  have f:(if n=0 then ([]:List UInt8) else 46::List.replicate n 48).length≤n+1:=by
   split
   ·simp
   ·rw [List.length_cons,List.length_replicate];omega
  simp at e f ⊢;omega
 ·rename_i h;exact hfT_len x mode n h0 h1 hn h
end Go.Ulp
namespace Go.Proofs.YtfphmlmgjhebjaaGreatDoor
open Go.RowKit Go.Ulp
set_option maxHeartbeats 16000000
set_option maxRecDepth 100000
theorem valueW_f (x:Int) (h0:0≤x) (h1:x<18446744073709551616) (hv:hasVal x=true) (wd pr:Int) (mi pl bl ze al:Bool) (hp: -1≤pr∧pr≤100) (pd:Int) (w:World) (hT:Tab 1 w) (hT10:Tab10 w):
 Calls Tryz.prog 68 #[.agg #[.int .i64 102,.bool mi,.bool pl,.bool bl,.bool ze,.bool al,.int .i64 wd,.int .i64 pr],.int .u64 x] w fun e w'=>e=.returned (.string (bsOf (wvT 102 al pr x pd)))∧Below w.heap.size w w':=by
 obtain ⟨p,hpp⟩: ∃p,p=wvP pr:=⟨_,rfl⟩
 have hpi:(p:Int)=if pr<0 then 6 else pr:=by rw [hpp];unfold wvP;split<;>omega
 have FX:=hid (fun W t u=>fixedP_ok x 0 p h0 h1 hv (by omega) (by omega) (by omega) W t u)
 obtain ⟨S,hS⟩: ∃S,S=fxT x p 0:=⟨_,rfl⟩
 have lS:S.length≤100000:=by rw [hS];have:=fxT_len x 0 p h0 h1 (by omega);omega
 have HR:=hid (show wvT 102 al pr x pd=if al=true then alS 101 S else S by rw [hS,hpp];rfl)
 rw [←hS] at FX
 generalize wvT 102 al pr x pd=RR at *
 have HT:=hid hT
 have HT10:=hid hT10
 clear hT hT10 hS hpp h0 h1 hv
 have zB:V8 (w.alloc (.cells #[.int .i64 102,.bool mi,.bool pl,.bool bl,.bool ze,.bool al,.int .i64 wd,.int .i64 pr] 50)) w.heap.size #[.int .i64 102,.bool mi,.bool pl,.bool bl,.bool ze,.bool al,.int .i64 wd,.int .i64 pr]:=V8.made rfl
 obtain ⟨y0,-,-,-,-,-,-,y7⟩:=zB.cells.1
 have HPI:=hid hpi
 clear hpi
 go_enter Tryz.func68,Tryz.ntmps68
 go_upto_if 12 with fail
 go_cut [5] (fun s wx=>s=.int .i64 (p:Int)∧wx=w.alloc (.cells #[.int .i64 102,.bool mi,.bool pl,.bool bl,.bool ze,.bool al,.int .i64 wd,.int .i64 pr] 50))
 case first=>
  clear FX
  by_cases hneg:pr<0
  ·have e:=HPI.out
   rw [if_pos hneg] at e
   have E:=hid e
   clear e
   go_wp2_with fail
   go_meet
   exact ⟨by rw [E.out],rfl⟩
  ·have e:=HPI.out
   rw [if_neg hneg] at e
   have E:=hid e
   clear e
   go_wp2_with fail
   go_meet
   exact ⟨by rw [E.out],rfl⟩
 case rest=>
 obtain ⟨rfl,rfl⟩:=hcut
 go_upto_region 15 with (go_at_call 124;(with_reducible refine (FX.out _ (HT.out.below (by (repeat' first|(with_reducible first|assumption|apply bR|apply bA|apply bN|apply bD|apply bL|apply bS)|refine bT ?_ (by assumption)|go_size))) (HT10.out.below (by (repeat' first|(with_reducible first|assumption|apply bR|apply bA|apply bN|apply bD|apply bL|apply bS)|refine bT ?_ (by assumption)|go_size)))).mono ?_);rintro en w5 ⟨rfl,hb5⟩)
 have yb5:Below w.heap.size w w5:=by (repeat' first|(with_reducible first|assumption|apply bR|apply bA|apply bN|apply bD|apply bL|apply bS)|refine bT ?_ (by assumption)|go_size)
 obtain ⟨⟨z0,-,-,-,-,z5,-,-⟩,-⟩:=(zB.below hb5).cells
 clear zB hb5 FX y0 y7 HPI
 have HS:=hid (show Hid (S.length≤100000) from hid lS)
 have IB:=hid (fun w=>Tryz.strings_IndexByte (bsOf S) 101 w)
 rw [bs_list] at IB
 obtain ⟨ib,hib⟩: ∃z,z=Lib.indexByte S 101:=⟨_,rfl⟩
 have hIB:Hid (∀w,Calls Tryz.prog 66 #[.string (bsOf S),.int .u8 101] w fun e w'=>e=.returned (.int .i64 ib)∧w=w'):=hid (fun w=>(IB.out w).mono (by rintro e w' ⟨rfl,rfl⟩;exact ⟨by rw [hib];rfl,rfl⟩))
 have hcut:=ib_cut 101 S
 rw [←hib] at hcut
 have CT:=hid (fun w=>Tryz.strings_Contains_one (bsOf S) 46 w)
 have hCT:Hid (∀w,Calls Tryz.prog 74 #[.string (bsOf S),.string ⟨#[46]⟩] w fun e w'=>e=.returned (.bool (S.contains 46))∧w=w'):=hid (fun w=>(CT.out w).mono (by rintro e w' ⟨rfl,rfl⟩;exact ⟨by rw [bs_list,ib_has],rfl⟩))
 obtain ⟨M,hM⟩: ∃M,M=aheadB 101 S:=⟨_,rfl⟩
 obtain ⟨T,hT'⟩: ∃T,T=fromB 101 S:=⟨_,rfl⟩
 have lMT:M.length+T.length=S.length:=by rw [hM,hT',←List.length_append,ahead_from]
 rw [←hM] at hcut
 have hst:=slice_to (P:=Tryz.prog) Tryz.underlying9 S (M.length:Int) (by omega) (by omega)
 have hsf:=slice_from (P:=Tryz.prog) Tryz.underlying9 S (M.length:Int) (by omega) (by omega)
 rw [Int.toNat_natCast,hM,take_ahead,←hM] at hst
 rw [Int.toNat_natCast,hM,drop_ahead,←hM,←hT'] at hsf
 have hsz:((bsOf S).size:Int)=(S.length:Int):=by rw [bs_size]
 have sM:(bsOf M).size≤100000:=by rw [bs_size];omega
 have sT:(bsOf T).size≤100000:=by rw [bs_size];omega
 have sMp:(bsOf (M++ [46])).size≤100001:=by rw [bs_size,List.length_append];simp;omega
 have a1:bsOf M++(⟨#[46]⟩:ByteArray)=bsOf (M++ [46]):=bs_app M [46]
 have a2:bsOf (M++ [46])++bsOf T=bsOf (M++46::T):=by rw [bs_app,List.append_assoc];rfl
 have HRS:=hid (show alS 101 S=if S.contains 46=true then S else M++46::T by unfold alS;rw [←hM,←hT'])
 have HRQ:=hid (show RR=if al=true then alS 101 S else S from HR.out)
 obtain ⟨pt,hpt⟩: ∃k,k=S.contains 46:=⟨_,rfl⟩
 rw [←hpt] at hCT HRS
 generalize alS 101 S=AS at *
 obtain ⟨n,hn⟩: ∃n:Int,n=(M.length:Int):=⟨_,rfl⟩
 obtain ⟨ln,hln⟩: ∃n:Int,n=(S.length:Int):=⟨_,rfl⟩
 rw [←hn] at hcut hst hsf
 rw [←hln] at hcut hsz
 clear IB CT hib hM hT' lMT lS hpt hn hln HR HS
 generalize hQ:bsOf S=Q at *
 cases al
 ·have HF:=hid (show RR=S from HRQ.out)
  clear HRQ HRS hcut hst hsf
  go_wp2_with fail
  go_ret
  exact ⟨by rw [HF.out,hQ];rfl,by (repeat' first|(with_reducible first|assumption|apply bR|apply bA|apply bN|apply bD|apply bL|apply bS)|refine bT ?_ (by assumption)|go_size)⟩
 ·have HF:=hid (show RR=AS from HRQ.out)
  clear HRQ
  cases pt
  ·have HF2:=hid (show RR=M++46::T by rw [HF.out];exact HRS.out)
   clear HF HRS
   by_cases hi:ib<0
   ·rw [if_pos hi] at hcut
    subst hcut
    go_upto_region 22 with (first
     |(go_at_call 66;(with_reducible refine (hIB.out _).mono ?_);rintro en w8 ⟨rfl,rfl⟩)
     |(go_at_call 74;(with_reducible refine (hCT.out _).mono ?_);rintro en w8 ⟨rfl,rfl⟩))
    go_region
    go_wp2_with fail
    go_ret
    exact ⟨by rw [HF2.out];first|rfl|(rw [←a2,←a1];rfl),by (repeat' first|(with_reducible first|assumption|apply bR|apply bA|apply bN|apply bD|apply bL|apply bS)|refine bT ?_ (by assumption)|go_size)⟩
   ·rw [if_neg hi] at hcut
    subst hcut
    go_upto_region 22 with (first
     |(go_at_call 66;(with_reducible refine (hIB.out _).mono ?_);rintro en w8 ⟨rfl,rfl⟩)
     |(go_at_call 74;(with_reducible refine (hCT.out _).mono ?_);rintro en w8 ⟨rfl,rfl⟩))
    go_region
    go_wp2_with fail
    go_ret
    exact ⟨by rw [HF2.out];first|rfl|(rw [←a2,←a1];rfl),by (repeat' first|(with_reducible first|assumption|apply bR|apply bA|apply bN|apply bD|apply bL|apply bS)|refine bT ?_ (by assumption)|go_size)⟩
  ·have HF2:=hid (show RR=S by rw [HF.out];exact HRS.out)
   clear HF HRS hcut hst hsf
   go_wp2_with (go_at_call 74;(with_reducible refine (hCT.out _).mono ?_);rintro en w8 ⟨rfl,rfl⟩)
   go_ret
   exact ⟨by rw [HF2.out,hQ];rfl,by (repeat' first|(with_reducible first|assumption|apply bR|apply bA|apply bN|apply bD|apply bL|apply bS)|refine bT ?_ (by assumption)|go_size)⟩
theorem valueW_e (x:Int) (h0:0≤x) (h1:x<18446744073709551616) (hv:hasVal x=true) (wd pr:Int) (mi pl bl ze al:Bool) (hp: -1≤pr∧pr≤100) (pd:Int) (hd:(fv x).1≠0→IsDec (dA (fv x)) (dB (fv x)) pd) (hpb: -1200≤pd∧pd≤1200) (w:World) (hT:Tab 1 w) (hT10:Tab10 w):
 Calls Tryz.prog 68 #[.agg #[.int .i64 101,.bool mi,.bool pl,.bool bl,.bool ze,.bool al,.int .i64 wd,.int .i64 pr],.int .u64 x] w fun e w'=>e=.returned (.string (bsOf (wvT 101 al pr x pd)))∧Below w.heap.size w w':=by
 obtain ⟨p,hpp⟩: ∃p,p=wvP pr:=⟨_,rfl⟩
 have hpi:(p:Int)=if pr<0 then 6 else pr:=by rw [hpp];unfold wvP;split<;>omega
 have FX:=hid (fun W t u=>sciP_ok x 0 pd p h0 h1 hv (by omega) (by omega) (by omega) hd ⟨by omega,by omega⟩ W t u)
 obtain ⟨S,hS⟩: ∃S,S=scT x p pd 0:=⟨_,rfl⟩
 have lS:S.length≤100000:=by rw [hS];have:=scT_len x 0 pd p (by omega) hd hpb;omega
 have HR:=hid (show wvT 101 al pr x pd=if al=true then alS 101 S else S by rw [hS,hpp];rfl)
 rw [←hS] at FX
 generalize wvT 101 al pr x pd=RR at *
 have HT:=hid hT
 have HT10:=hid hT10
 have wp:IntKind.i64.wrap ((p:Int)+1)=(p:Int)+1:=IntWalk.i64_in _ (by omega)
 clear hT hT10 hS hpp h0 h1 hv hd
 have zB:V8 (w.alloc (.cells #[.int .i64 101,.bool mi,.bool pl,.bool bl,.bool ze,.bool al,.int .i64 wd,.int .i64 pr] 50)) w.heap.size #[.int .i64 101,.bool mi,.bool pl,.bool bl,.bool ze,.bool al,.int .i64 wd,.int .i64 pr]:=V8.made rfl
 obtain ⟨y0,-,-,-,-,-,-,y7⟩:=zB.cells.1
 have HPI:=hid hpi
 clear hpi
 go_enter Tryz.func68,Tryz.ntmps68
 go_upto_if 12 with fail
 go_cut [5] (fun s wx=>s=.int .i64 (p:Int)∧wx=w.alloc (.cells #[.int .i64 101,.bool mi,.bool pl,.bool bl,.bool ze,.bool al,.int .i64 wd,.int .i64 pr] 50))
 case first=>
  clear FX
  by_cases hneg:pr<0
  ·have e:=HPI.out
   rw [if_pos hneg] at e
   have E:=hid e
   clear e
   go_wp2_with fail
   go_meet
   exact ⟨by rw [E.out],rfl⟩
  ·have e:=HPI.out
   rw [if_neg hneg] at e
   have E:=hid e
   clear e
   go_wp2_with fail
   go_meet
   exact ⟨by rw [E.out],rfl⟩
 case rest=>
 obtain ⟨rfl,rfl⟩:=hcut
 go_upto_region 15 with (go_at_call 125;(with_reducible refine (FX.out _ (HT.out.below (by (repeat' first|(with_reducible first|assumption|apply bR|apply bA|apply bN|apply bD|apply bL|apply bS)|refine bT ?_ (by assumption)|go_size))) (HT10.out.below (by (repeat' first|(with_reducible first|assumption|apply bR|apply bA|apply bN|apply bD|apply bL|apply bS)|refine bT ?_ (by assumption)|go_size)))).mono ?_);rintro en w5 ⟨rfl,hb5⟩)
 have yb5:Below w.heap.size w w5:=by (repeat' first|(with_reducible first|assumption|apply bR|apply bA|apply bN|apply bD|apply bL|apply bS)|refine bT ?_ (by assumption)|go_size)
 obtain ⟨⟨z0,-,-,-,-,z5,-,-⟩,-⟩:=(zB.below hb5).cells
 clear zB hb5 FX y0 y7 HPI
 have HS:=hid (show Hid (S.length≤100000) from hid lS)
 have IB:=hid (fun w=>Tryz.strings_IndexByte (bsOf S) 101 w)
 rw [bs_list] at IB
 obtain ⟨ib,hib⟩: ∃z,z=Lib.indexByte S 101:=⟨_,rfl⟩
 have hIB:Hid (∀w,Calls Tryz.prog 66 #[.string (bsOf S),.int .u8 101] w fun e w'=>e=.returned (.int .i64 ib)∧w=w'):=hid (fun w=>(IB.out w).mono (by rintro e w' ⟨rfl,rfl⟩;exact ⟨by rw [hib];rfl,rfl⟩))
 have hcut:=ib_cut 101 S
 rw [←hib] at hcut
 have CT:=hid (fun w=>Tryz.strings_Contains_one (bsOf S) 46 w)
 have hCT:Hid (∀w,Calls Tryz.prog 74 #[.string (bsOf S),.string ⟨#[46]⟩] w fun e w'=>e=.returned (.bool (S.contains 46))∧w=w'):=hid (fun w=>(CT.out w).mono (by rintro e w' ⟨rfl,rfl⟩;exact ⟨by rw [bs_list,ib_has],rfl⟩))
 obtain ⟨M,hM⟩: ∃M,M=aheadB 101 S:=⟨_,rfl⟩
 obtain ⟨T,hT'⟩: ∃T,T=fromB 101 S:=⟨_,rfl⟩
 have lMT:M.length+T.length=S.length:=by rw [hM,hT',←List.length_append,ahead_from]
 rw [←hM] at hcut
 have hst:=slice_to (P:=Tryz.prog) Tryz.underlying9 S (M.length:Int) (by omega) (by omega)
 have hsf:=slice_from (P:=Tryz.prog) Tryz.underlying9 S (M.length:Int) (by omega) (by omega)
 rw [Int.toNat_natCast,hM,take_ahead,←hM] at hst
 rw [Int.toNat_natCast,hM,drop_ahead,←hM,←hT'] at hsf
 have hsz:((bsOf S).size:Int)=(S.length:Int):=by rw [bs_size]
 have sM:(bsOf M).size≤100000:=by rw [bs_size];omega
 have sT:(bsOf T).size≤100000:=by rw [bs_size];omega
 have sMp:(bsOf (M++ [46])).size≤100001:=by rw [bs_size,List.length_append];simp;omega
 have a1:bsOf M++(⟨#[46]⟩:ByteArray)=bsOf (M++ [46]):=bs_app M [46]
 have a2:bsOf (M++ [46])++bsOf T=bsOf (M++46::T):=by rw [bs_app,List.append_assoc];rfl
 have HRS:=hid (show alS 101 S=if S.contains 46=true then S else M++46::T by unfold alS;rw [←hM,←hT'])
 have HRQ:=hid (show RR=if al=true then alS 101 S else S from HR.out)
 obtain ⟨pt,hpt⟩: ∃k,k=S.contains 46:=⟨_,rfl⟩
 rw [←hpt] at hCT HRS
 generalize alS 101 S=AS at *
 obtain ⟨n,hn⟩: ∃n:Int,n=(M.length:Int):=⟨_,rfl⟩
 obtain ⟨ln,hln⟩: ∃n:Int,n=(S.length:Int):=⟨_,rfl⟩
 rw [←hn] at hcut hst hsf
 rw [←hln] at hcut hsz
 clear IB CT hib hM hT' lMT lS hpt hn hln HR HS
 generalize hQ:bsOf S=Q at *
 cases al
 ·have HF:=hid (show RR=S from HRQ.out)
  clear HRQ HRS hcut hst hsf
  go_wp2_with fail
  go_ret
  exact ⟨by rw [HF.out,hQ];rfl,by (repeat' first|(with_reducible first|assumption|apply bR|apply bA|apply bN|apply bD|apply bL|apply bS)|refine bT ?_ (by assumption)|go_size)⟩
 ·have HF:=hid (show RR=AS from HRQ.out)
  clear HRQ
  cases pt
  ·have HF2:=hid (show RR=M++46::T by rw [HF.out];exact HRS.out)
   clear HF HRS
   by_cases hi:ib<0
   ·rw [if_pos hi] at hcut
    subst hcut
    go_upto_region 22 with (first
     |(go_at_call 66;(with_reducible refine (hIB.out _).mono ?_);rintro en w8 ⟨rfl,rfl⟩)
     |(go_at_call 74;(with_reducible refine (hCT.out _).mono ?_);rintro en w8 ⟨rfl,rfl⟩))
    go_region
    go_wp2_with fail
    go_ret
    exact ⟨by rw [HF2.out];first|rfl|(rw [←a2,←a1];rfl),by (repeat' first|(with_reducible first|assumption|apply bR|apply bA|apply bN|apply bD|apply bL|apply bS)|refine bT ?_ (by assumption)|go_size)⟩
   ·rw [if_neg hi] at hcut
    subst hcut
    go_upto_region 22 with (first
     |(go_at_call 66;(with_reducible refine (hIB.out _).mono ?_);rintro en w8 ⟨rfl,rfl⟩)
     |(go_at_call 74;(with_reducible refine (hCT.out _).mono ?_);rintro en w8 ⟨rfl,rfl⟩))
    go_region
    go_wp2_with fail
    go_ret
    exact ⟨by rw [HF2.out];first|rfl|(rw [←a2,←a1];rfl),by (repeat' first|(with_reducible first|assumption|apply bR|apply bA|apply bN|apply bD|apply bL|apply bS)|refine bT ?_ (by assumption)|go_size)⟩
  ·have HF2:=hid (show RR=S by rw [HF.out];exact HRS.out)
   clear HF HRS hcut hst hsf
   go_wp2_with (go_at_call 74;(with_reducible refine (hCT.out _).mono ?_);rintro en w8 ⟨rfl,rfl⟩)
   go_ret
   exact ⟨by rw [HF2.out,hQ];rfl,by (repeat' first|(with_reducible first|assumption|apply bR|apply bA|apply bN|apply bD|apply bL|apply bS)|refine bT ?_ (by assumption)|go_size)⟩
theorem valueW_g (x:Int) (h0:0≤x) (h1:x<18446744073709551616) (hv:hasVal x=true) (wd pr:Int) (mi pl bl ze al:Bool) (hp: -1≤pr∧pr≤100) (pd:Int) (hd:(fv x).1≠0→IsDec (dA (fv x)) (dB (fv x)) pd) (hpb: -1200≤pd∧pd≤1200) (w:World) (hT:Tab 1 w) (hT10:Tab10 w):
 Calls Tryz.prog 68 #[.agg #[.int .i64 103,.bool mi,.bool pl,.bool bl,.bool ze,.bool al,.int .i64 wd,.int .i64 pr],.int .u64 x] w fun e w'=>e=.returned (.string (bsOf (wvT 103 al pr x pd)))∧Below w.heap.size w w':=by
 obtain ⟨p,hpp⟩: ∃p,p=wvP pr:=⟨_,rfl⟩
 have hpi:(p:Int)=if pr<0 then 6 else pr:=by rw [hpp];unfold wvP;split<;>omega
 have FX:=hid (fun W t u=>generalW_any x h0 h1 hv 103 wd pr mi pl bl ze al p (max p 1-1) (by omega) (by omega) pd hd hpb W t u)
 obtain ⟨S,hS⟩: ∃S,S=gnT al x (max p 1-1) pd:=⟨_,rfl⟩
 have lS:S.length≤100000:=by rw [hS];have:=gnT_len al x pd (max p 1-1) h0 h1 (by omega) hd hpb;omega
 have HR:=hid (show wvT 103 al pr x pd=if al=true then alS 101 S else S by rw [hS,hpp];rfl)
 rw [←hS] at FX
 generalize wvT 103 al pr x pd=RR at *
 have HT:=hid hT
 have HT10:=hid hT10
 clear hT hT10 hS hpp h0 h1 hv hd
 have zB:V8 (w.alloc (.cells #[.int .i64 103,.bool mi,.bool pl,.bool bl,.bool ze,.bool al,.int .i64 wd,.int .i64 pr] 50)) w.heap.size #[.int .i64 103,.bool mi,.bool pl,.bool bl,.bool ze,.bool al,.int .i64 wd,.int .i64 pr]:=V8.made rfl
 obtain ⟨y0,-,-,-,-,-,-,y7⟩:=zB.cells.1
 have HPI:=hid hpi
 clear hpi
 go_enter Tryz.func68,Tryz.ntmps68
 go_upto_if 12 with fail
 go_cut [5] (fun s wx=>s=.int .i64 (p:Int)∧wx=w.alloc (.cells #[.int .i64 103,.bool mi,.bool pl,.bool bl,.bool ze,.bool al,.int .i64 wd,.int .i64 pr] 50))
 case first=>
  clear FX
  by_cases hneg:pr<0
  ·have e:=HPI.out
   rw [if_pos hneg] at e
   have E:=hid e
   clear e
   go_wp2_with fail
   go_meet
   exact ⟨by rw [E.out],rfl⟩
  ·have e:=HPI.out
   rw [if_neg hneg] at e
   have E:=hid e
   clear e
   go_wp2_with fail
   go_meet
   exact ⟨by rw [E.out],rfl⟩
 case rest=>
 obtain ⟨rfl,rfl⟩:=hcut
 go_upto_region 15 with (go_at_call 126;(with_reducible refine (FX.out _ (HT.out.below (by (repeat' first|(with_reducible first|assumption|apply bR|apply bA|apply bN|apply bD|apply bL|apply bS)|refine bT ?_ (by assumption)|go_size))) (HT10.out.below (by (repeat' first|(with_reducible first|assumption|apply bR|apply bA|apply bN|apply bD|apply bL|apply bS)|refine bT ?_ (by assumption)|go_size)))).mono ?_);rintro en w5 ⟨rfl,hb5⟩)
 have yb5:Below w.heap.size w w5:=by (repeat' first|(with_reducible first|assumption|apply bR|apply bA|apply bN|apply bD|apply bL|apply bS)|refine bT ?_ (by assumption)|go_size)
 obtain ⟨⟨z0,-,-,-,-,z5,-,-⟩,-⟩:=(zB.below hb5).cells
 clear zB hb5 FX y0 y7 HPI
 have HS:=hid (show Hid (S.length≤100000) from hid lS)
 have IB:=hid (fun w=>Tryz.strings_IndexByte (bsOf S) 101 w)
 rw [bs_list] at IB
 obtain ⟨ib,hib⟩: ∃z,z=Lib.indexByte S 101:=⟨_,rfl⟩
 have hIB:Hid (∀w,Calls Tryz.prog 66 #[.string (bsOf S),.int .u8 101] w fun e w'=>e=.returned (.int .i64 ib)∧w=w'):=hid (fun w=>(IB.out w).mono (by rintro e w' ⟨rfl,rfl⟩;exact ⟨by rw [hib];rfl,rfl⟩))
 have hcut:=ib_cut 101 S
 rw [←hib] at hcut
 have CT:=hid (fun w=>Tryz.strings_Contains_one (bsOf S) 46 w)
 have hCT:Hid (∀w,Calls Tryz.prog 74 #[.string (bsOf S),.string ⟨#[46]⟩] w fun e w'=>e=.returned (.bool (S.contains 46))∧w=w'):=hid (fun w=>(CT.out w).mono (by rintro e w' ⟨rfl,rfl⟩;exact ⟨by rw [bs_list,ib_has],rfl⟩))
 obtain ⟨M,hM⟩: ∃M,M=aheadB 101 S:=⟨_,rfl⟩
 obtain ⟨T,hT'⟩: ∃T,T=fromB 101 S:=⟨_,rfl⟩
 have lMT:M.length+T.length=S.length:=by rw [hM,hT',←List.length_append,ahead_from]
 rw [←hM] at hcut
 have hst:=slice_to (P:=Tryz.prog) Tryz.underlying9 S (M.length:Int) (by omega) (by omega)
 have hsf:=slice_from (P:=Tryz.prog) Tryz.underlying9 S (M.length:Int) (by omega) (by omega)
 rw [Int.toNat_natCast,hM,take_ahead,←hM] at hst
 rw [Int.toNat_natCast,hM,drop_ahead,←hM,←hT'] at hsf
 have hsz:((bsOf S).size:Int)=(S.length:Int):=by rw [bs_size]
 have sM:(bsOf M).size≤100000:=by rw [bs_size];omega
 have sT:(bsOf T).size≤100000:=by rw [bs_size];omega
 have sMp:(bsOf (M++ [46])).size≤100001:=by rw [bs_size,List.length_append];simp;omega
 have a1:bsOf M++(⟨#[46]⟩:ByteArray)=bsOf (M++ [46]):=bs_app M [46]
 have a2:bsOf (M++ [46])++bsOf T=bsOf (M++46::T):=by rw [bs_app,List.append_assoc];rfl
 have HRS:=hid (show alS 101 S=if S.contains 46=true then S else M++46::T by unfold alS;rw [←hM,←hT'])
 have HRQ:=hid (show RR=if al=true then alS 101 S else S from HR.out)
 obtain ⟨pt,hpt⟩: ∃k,k=S.contains 46:=⟨_,rfl⟩
 rw [←hpt] at hCT HRS
 generalize alS 101 S=AS at *
 obtain ⟨n,hn⟩: ∃n:Int,n=(M.length:Int):=⟨_,rfl⟩
 obtain ⟨ln,hln⟩: ∃n:Int,n=(S.length:Int):=⟨_,rfl⟩
 rw [←hn] at hcut hst hsf
 rw [←hln] at hcut hsz
 clear IB CT hib hM hT' lMT lS hpt hn hln HR HS
 generalize hQ:bsOf S=Q at *
 cases al
 ·have HF:=hid (show RR=S from HRQ.out)
  clear HRQ HRS hcut hst hsf
  go_wp2_with fail
  go_ret
  exact ⟨by rw [HF.out,hQ];rfl,by (repeat' first|(with_reducible first|assumption|apply bR|apply bA|apply bN|apply bD|apply bL|apply bS)|refine bT ?_ (by assumption)|go_size)⟩
 ·have HF:=hid (show RR=AS from HRQ.out)
  clear HRQ
  cases pt
  ·have HF2:=hid (show RR=M++46::T by rw [HF.out];exact HRS.out)
   clear HF HRS
   by_cases hi:ib<0
   ·rw [if_pos hi] at hcut
    subst hcut
    go_upto_region 22 with (first
     |(go_at_call 66;(with_reducible refine (hIB.out _).mono ?_);rintro en w8 ⟨rfl,rfl⟩)
     |(go_at_call 74;(with_reducible refine (hCT.out _).mono ?_);rintro en w8 ⟨rfl,rfl⟩))
    go_region
    go_wp2_with fail
    go_ret
    exact ⟨by rw [HF2.out];first|rfl|(rw [←a2,←a1];rfl),by (repeat' first|(with_reducible first|assumption|apply bR|apply bA|apply bN|apply bD|apply bL|apply bS)|refine bT ?_ (by assumption)|go_size)⟩
   ·rw [if_neg hi] at hcut
    subst hcut
    go_upto_region 22 with (first
     |(go_at_call 66;(with_reducible refine (hIB.out _).mono ?_);rintro en w8 ⟨rfl,rfl⟩)
     |(go_at_call 74;(with_reducible refine (hCT.out _).mono ?_);rintro en w8 ⟨rfl,rfl⟩))
    go_region
    go_wp2_with fail
    go_ret
    exact ⟨by rw [HF2.out];first|rfl|(rw [←a2,←a1];rfl),by (repeat' first|(with_reducible first|assumption|apply bR|apply bA|apply bN|apply bD|apply bL|apply bS)|refine bT ?_ (by assumption)|go_size)⟩
  ·have HF2:=hid (show RR=S by rw [HF.out];exact HRS.out)
   clear HF HRS hcut hst hsf
   go_wp2_with (go_at_call 74;(with_reducible refine (hCT.out _).mono ?_);rintro en w8 ⟨rfl,rfl⟩)
   go_ret
   exact ⟨by rw [HF2.out,hQ];rfl,by (repeat' first|(with_reducible first|assumption|apply bR|apply bA|apply bN|apply bD|apply bL|apply bS)|refine bT ?_ (by assumption)|go_size)⟩
theorem valueW_a (x:Int) (h0:0≤x) (h1:x<18446744073709551616) (hv:hasVal x=true) (wd pr:Int) (mi pl bl ze al:Bool) (hp: -1≤pr∧pr≤30) (pd:Int) (w:World) (hT:Tab 1 w) (hT10:Tab10 w):
 Calls Tryz.prog 68 #[.agg #[.int .i64 97,.bool mi,.bool pl,.bool bl,.bool ze,.bool al,.int .i64 wd,.int .i64 pr],.int .u64 x] w fun e w'=>e=.returned (.string (bsOf (wvT 97 al pr x pd)))∧Below w.heap.size w w':=by
 have zB:V8 (w.alloc (.cells #[.int .i64 97,.bool mi,.bool pl,.bool bl,.bool ze,.bool al,.int .i64 wd,.int .i64 pr] 50)) w.heap.size #[.int .i64 97,.bool mi,.bool pl,.bool bl,.bool ze,.bool al,.int .i64 wd,.int .i64 pr]:=V8.made rfl
 by_cases hneg:pr<0
 ·have FX:=hid (fun W t u=>hexText_any x h0 h1 W t u)
  obtain ⟨S,hS⟩: ∃S,S=hexTx x:=⟨_,rfl⟩
  have lS:S.length≤100000:=by rw [hS];have:=hexTx_len x h0 h1;omega
  have hw:wvS 97 al pr x pd=S:=by rw [hS];unfold wvS;rw [if_neg (by decide),if_neg (by decide),if_neg (by decide),if_pos hneg]
  have HR:=hid (show wvT 97 al pr x pd=if al=true then alS 112 S else S by unfold wvT;rw [hw];rfl)
  clear hw
  rw [←hS] at FX
  generalize wvT 97 al pr x pd=RR at *
  have HT:=hid hT
  have HT10:=hid hT10
  clear hT hT10 hS h0 h1 hv
  go_enter Tryz.func68,Tryz.ntmps68
  go_upto_region 15 with (go_at_call 37;(with_reducible refine (FX.out _ (HT.out.below (by (repeat' first|(with_reducible first|assumption|apply bR|apply bA|apply bN|apply bD|apply bL|apply bS)|refine bT ?_ (by assumption)|go_size))) (HT10.out.below (by (repeat' first|(with_reducible first|assumption|apply bR|apply bA|apply bN|apply bD|apply bL|apply bS)|refine bT ?_ (by assumption)|go_size)))).mono ?_);rintro en w5 ⟨rfl,hb5⟩)
  have yb5:Below w.heap.size w w5:=by (repeat' first|(with_reducible first|assumption|apply bR|apply bA|apply bN|apply bD|apply bL|apply bS)|refine bT ?_ (by assumption)|go_size)
  obtain ⟨⟨z0,-,-,-,-,z5,-,-⟩,-⟩:=(zB.below hb5).cells
  clear zB hb5 FX
  have HS:=hid (show Hid (S.length≤100000) from hid lS)
  have IB:=hid (fun w=>Tryz.strings_IndexByte (bsOf S) 112 w)
  rw [bs_list] at IB
  obtain ⟨ib,hib⟩: ∃z,z=Lib.indexByte S 112:=⟨_,rfl⟩
  have hIB:Hid (∀w,Calls Tryz.prog 66 #[.string (bsOf S),.int .u8 112] w fun e w'=>e=.returned (.int .i64 ib)∧w=w'):=hid (fun w=>(IB.out w).mono (by rintro e w' ⟨rfl,rfl⟩;exact ⟨by rw [hib];rfl,rfl⟩))
  have hcut:=ib_cut 112 S
  rw [←hib] at hcut
  have CT:=hid (fun w=>Tryz.strings_Contains_one (bsOf S) 46 w)
  have hCT:Hid (∀w,Calls Tryz.prog 74 #[.string (bsOf S),.string ⟨#[46]⟩] w fun e w'=>e=.returned (.bool (S.contains 46))∧w=w'):=hid (fun w=>(CT.out w).mono (by rintro e w' ⟨rfl,rfl⟩;exact ⟨by rw [bs_list,ib_has],rfl⟩))
  obtain ⟨M,hM⟩: ∃M,M=aheadB 112 S:=⟨_,rfl⟩
  obtain ⟨T,hT'⟩: ∃T,T=fromB 112 S:=⟨_,rfl⟩
  have lMT:M.length+T.length=S.length:=by rw [hM,hT',←List.length_append,ahead_from]
  rw [←hM] at hcut
  have hst:=slice_to (P:=Tryz.prog) Tryz.underlying9 S (M.length:Int) (by omega) (by omega)
  have hsf:=slice_from (P:=Tryz.prog) Tryz.underlying9 S (M.length:Int) (by omega) (by omega)
  rw [Int.toNat_natCast,hM,take_ahead,←hM] at hst
  rw [Int.toNat_natCast,hM,drop_ahead,←hM,←hT'] at hsf
  have hsz:((bsOf S).size:Int)=(S.length:Int):=by rw [bs_size]
  have sM:(bsOf M).size≤100000:=by rw [bs_size];omega
  have sT:(bsOf T).size≤100000:=by rw [bs_size];omega
  have sMp:(bsOf (M++ [46])).size≤100001:=by rw [bs_size,List.length_append];simp;omega
  have a1:bsOf M++(⟨#[46]⟩:ByteArray)=bsOf (M++ [46]):=bs_app M [46]
  have a2:bsOf (M++ [46])++bsOf T=bsOf (M++46::T):=by rw [bs_app,List.append_assoc];rfl
  have HRS:=hid (show alS 112 S=if S.contains 46=true then S else M++46::T by unfold alS;rw [←hM,←hT'])
  have HRQ:=hid (show RR=if al=true then alS 112 S else S from HR.out)
  obtain ⟨pt,hpt⟩: ∃k,k=S.contains 46:=⟨_,rfl⟩
  rw [←hpt] at hCT HRS
  generalize alS 112 S=AS at *
  obtain ⟨n,hn⟩: ∃n:Int,n=(M.length:Int):=⟨_,rfl⟩
  obtain ⟨ln,hln⟩: ∃n:Int,n=(S.length:Int):=⟨_,rfl⟩
  rw [←hn] at hcut hst hsf
  rw [←hln] at hcut hsz
  clear IB CT hib hM hT' lMT lS hpt hn hln HR HS
  generalize hQ:bsOf S=Q at *
  cases al
  ·have HF:=hid (show RR=S from HRQ.out)
   clear HRQ HRS hcut hst hsf
   go_wp2_with fail
   go_ret
   exact ⟨by rw [HF.out,hQ];rfl,by (repeat' first|(with_reducible first|assumption|apply bR|apply bA|apply bN|apply bD|apply bL|apply bS)|refine bT ?_ (by assumption)|go_size)⟩
  ·have HF:=hid (show RR=AS from HRQ.out)
   clear HRQ
   cases pt
   ·have HF2:=hid (show RR=M++46::T by rw [HF.out];exact HRS.out)
    clear HF HRS
    by_cases hi:ib<0
    ·rw [if_pos hi] at hcut
     subst hcut
     go_upto_region 22 with (first
      |(go_at_call 66;(with_reducible refine (hIB.out _).mono ?_);rintro en w8 ⟨rfl,rfl⟩)
      |(go_at_call 74;(with_reducible refine (hCT.out _).mono ?_);rintro en w8 ⟨rfl,rfl⟩))
     go_region
     go_wp2_with fail
     go_ret
     exact ⟨by rw [HF2.out];first|rfl|(rw [←a2,←a1];rfl),by (repeat' first|(with_reducible first|assumption|apply bR|apply bA|apply bN|apply bD|apply bL|apply bS)|refine bT ?_ (by assumption)|go_size)⟩
    ·rw [if_neg hi] at hcut
     subst hcut
     go_upto_region 22 with (first
      |(go_at_call 66;(with_reducible refine (hIB.out _).mono ?_);rintro en w8 ⟨rfl,rfl⟩)
      |(go_at_call 74;(with_reducible refine (hCT.out _).mono ?_);rintro en w8 ⟨rfl,rfl⟩))
     go_region
     go_wp2_with fail
     go_ret
     exact ⟨by rw [HF2.out];first|rfl|(rw [←a2,←a1];rfl),by (repeat' first|(with_reducible first|assumption|apply bR|apply bA|apply bN|apply bD|apply bL|apply bS)|refine bT ?_ (by assumption)|go_size)⟩
   ·have HF2:=hid (show RR=S by rw [HF.out];exact HRS.out)
    clear HF HRS hcut hst hsf
    go_wp2_with (go_at_call 74;(with_reducible refine (hCT.out _).mono ?_);rintro en w8 ⟨rfl,rfl⟩)
    go_ret
    exact ⟨by rw [HF2.out,hQ];rfl,by (repeat' first|(with_reducible first|assumption|apply bR|apply bA|apply bN|apply bD|apply bL|apply bS)|refine bT ?_ (by assumption)|go_size)⟩
 ·obtain ⟨p,hpp⟩: ∃p,p=wvP pr:=⟨_,rfl⟩
  have hpi:(p:Int)=pr:=by rw [hpp];unfold wvP;rw [if_neg hneg];omega
  have FX:=hid (fun W t u=>hexFixed_ok x 0 p h0 h1 hv (by omega) (by omega) (by omega) W t u)
  obtain ⟨S,hS⟩: ∃S,S=hexFx x p 0:=⟨_,rfl⟩
  have lS:S.length≤100000:=by rw [hS];have:=hexFx_len x 0 p h0 h1 (by omega);omega
  have hw:wvS 97 al pr x pd=S:=by rw [hS,hpp];unfold wvS;rw [if_neg (by decide),if_neg (by decide),if_neg (by decide),if_neg hneg]
  have HR:=hid (show wvT 97 al pr x pd=if al=true then alS 112 S else S by unfold wvT;rw [hw];rfl)
  clear hw
  rw [←hS,hpi] at FX
  generalize wvT 97 al pr x pd=RR at *
  have HT:=hid hT
  have HT10:=hid hT10
  clear hT hT10 hS hpp h0 h1 hv hpi
  go_enter Tryz.func68,Tryz.ntmps68
  go_upto_region 15 with (go_at_call 127;(with_reducible refine (FX.out _ (HT.out.below (by (repeat' first|(with_reducible first|assumption|apply bR|apply bA|apply bN|apply bD|apply bL|apply bS)|refine bT ?_ (by assumption)|go_size))) (HT10.out.below (by (repeat' first|(with_reducible first|assumption|apply bR|apply bA|apply bN|apply bD|apply bL|apply bS)|refine bT ?_ (by assumption)|go_size)))).mono ?_);rintro en w5 ⟨rfl,hb5⟩)
  have yb5:Below w.heap.size w w5:=by (repeat' first|(with_reducible first|assumption|apply bR|apply bA|apply bN|apply bD|apply bL|apply bS)|refine bT ?_ (by assumption)|go_size)
  obtain ⟨⟨z0,-,-,-,-,z5,-,-⟩,-⟩:=(zB.below hb5).cells
  clear zB hb5 FX
  have HS:=hid (show Hid (S.length≤100000) from hid lS)
  have IB:=hid (fun w=>Tryz.strings_IndexByte (bsOf S) 112 w)
  rw [bs_list] at IB
  obtain ⟨ib,hib⟩: ∃z,z=Lib.indexByte S 112:=⟨_,rfl⟩
  have hIB:Hid (∀w,Calls Tryz.prog 66 #[.string (bsOf S),.int .u8 112] w fun e w'=>e=.returned (.int .i64 ib)∧w=w'):=hid (fun w=>(IB.out w).mono (by rintro e w' ⟨rfl,rfl⟩;exact ⟨by rw [hib];rfl,rfl⟩))
  have hcut:=ib_cut 112 S
  rw [←hib] at hcut
  have CT:=hid (fun w=>Tryz.strings_Contains_one (bsOf S) 46 w)
  have hCT:Hid (∀w,Calls Tryz.prog 74 #[.string (bsOf S),.string ⟨#[46]⟩] w fun e w'=>e=.returned (.bool (S.contains 46))∧w=w'):=hid (fun w=>(CT.out w).mono (by rintro e w' ⟨rfl,rfl⟩;exact ⟨by rw [bs_list,ib_has],rfl⟩))
  obtain ⟨M,hM⟩: ∃M,M=aheadB 112 S:=⟨_,rfl⟩
  obtain ⟨T,hT'⟩: ∃T,T=fromB 112 S:=⟨_,rfl⟩
  have lMT:M.length+T.length=S.length:=by rw [hM,hT',←List.length_append,ahead_from]
  rw [←hM] at hcut
  have hst:=slice_to (P:=Tryz.prog) Tryz.underlying9 S (M.length:Int) (by omega) (by omega)
  have hsf:=slice_from (P:=Tryz.prog) Tryz.underlying9 S (M.length:Int) (by omega) (by omega)
  rw [Int.toNat_natCast,hM,take_ahead,←hM] at hst
  rw [Int.toNat_natCast,hM,drop_ahead,←hM,←hT'] at hsf
  have hsz:((bsOf S).size:Int)=(S.length:Int):=by rw [bs_size]
  have sM:(bsOf M).size≤100000:=by rw [bs_size];omega
  have sT:(bsOf T).size≤100000:=by rw [bs_size];omega
  have sMp:(bsOf (M++ [46])).size≤100001:=by rw [bs_size,List.length_append];simp;omega
  have a1:bsOf M++(⟨#[46]⟩:ByteArray)=bsOf (M++ [46]):=bs_app M [46]
  have a2:bsOf (M++ [46])++bsOf T=bsOf (M++46::T):=by rw [bs_app,List.append_assoc];rfl
  have HRS:=hid (show alS 112 S=if S.contains 46=true then S else M++46::T by unfold alS;rw [←hM,←hT'])
  have HRQ:=hid (show RR=if al=true then alS 112 S else S from HR.out)
  obtain ⟨pt,hpt⟩: ∃k,k=S.contains 46:=⟨_,rfl⟩
  rw [←hpt] at hCT HRS
  generalize alS 112 S=AS at *
  obtain ⟨n,hn⟩: ∃n:Int,n=(M.length:Int):=⟨_,rfl⟩
  obtain ⟨ln,hln⟩: ∃n:Int,n=(S.length:Int):=⟨_,rfl⟩
  rw [←hn] at hcut hst hsf
  rw [←hln] at hcut hsz
  clear IB CT hib hM hT' lMT lS hpt hn hln HR HS
  generalize hQ:bsOf S=Q at *
  cases al
  ·have HF:=hid (show RR=S from HRQ.out)
   clear HRQ HRS hcut hst hsf
   go_wp2_with fail
   go_ret
   exact ⟨by rw [HF.out,hQ];rfl,by (repeat' first|(with_reducible first|assumption|apply bR|apply bA|apply bN|apply bD|apply bL|apply bS)|refine bT ?_ (by assumption)|go_size)⟩
  ·have HF:=hid (show RR=AS from HRQ.out)
   clear HRQ
   cases pt
   ·have HF2:=hid (show RR=M++46::T by rw [HF.out];exact HRS.out)
    clear HF HRS
    by_cases hi:ib<0
    ·rw [if_pos hi] at hcut
     subst hcut
     go_upto_region 22 with (first
      |(go_at_call 66;(with_reducible refine (hIB.out _).mono ?_);rintro en w8 ⟨rfl,rfl⟩)
      |(go_at_call 74;(with_reducible refine (hCT.out _).mono ?_);rintro en w8 ⟨rfl,rfl⟩))
     go_region
     go_wp2_with fail
     go_ret
     exact ⟨by rw [HF2.out];first|rfl|(rw [←a2,←a1];rfl),by (repeat' first|(with_reducible first|assumption|apply bR|apply bA|apply bN|apply bD|apply bL|apply bS)|refine bT ?_ (by assumption)|go_size)⟩
    ·rw [if_neg hi] at hcut
     subst hcut
     go_upto_region 22 with (first
      |(go_at_call 66;(with_reducible refine (hIB.out _).mono ?_);rintro en w8 ⟨rfl,rfl⟩)
      |(go_at_call 74;(with_reducible refine (hCT.out _).mono ?_);rintro en w8 ⟨rfl,rfl⟩))
     go_region
     go_wp2_with fail
     go_ret
     exact ⟨by rw [HF2.out];first|rfl|(rw [←a2,←a1];rfl),by (repeat' first|(with_reducible first|assumption|apply bR|apply bA|apply bN|apply bD|apply bL|apply bS)|refine bT ?_ (by assumption)|go_size)⟩
   ·have HF2:=hid (show RR=S by rw [HF.out];exact HRS.out)
    clear HF HRS hcut hst hsf
    go_wp2_with (go_at_call 74;(with_reducible refine (hCT.out _).mono ?_);rintro en w8 ⟨rfl,rfl⟩)
    go_ret
    exact ⟨by rw [HF2.out,hQ];rfl,by (repeat' first|(with_reducible first|assumption|apply bR|apply bA|apply bN|apply bD|apply bL|apply bS)|refine bT ?_ (by assumption)|go_size)⟩
end Go.Proofs.YtfphmlmgjhebjaaGreatDoor
namespace Go.Ulp
open Go.RowKit
def wnN (wd:Int) (H B:List UInt8):Nat:=(wd-(H.length:Int)-(B.length:Int)).toNat
def wfF (verb wd:Int) (mi zv:Bool) (H B:List UInt8):List UInt8:=
 if mi=true then H++B++List.replicate (wnN wd H B) 32
 else if zv=true then (if verb=97 then H++ [48,120]++List.replicate (wnN wd H B) 48++B.drop 2 else H++List.replicate (wnN wd H B) 48++B)
 else List.replicate (wnN wd H B) 32++H++B
def wfB (verb:Int) (al:Bool) (pr x pd:Int):List UInt8:=if classOf x=5 then [110,97,110] else if classOf x=4 then [105,110,102] else wvT verb al pr (absOf x) pd
def wfT (verb wd pr:Int) (mi pl bl ze al:Bool) (x pd:Int):List UInt8:=wfF verb wd mi (ze&&hasVal x) (sgW x pl bl) (wfB verb al pr x pd)
def wfO (verb wd pr:Int):Prop:=(verb=101∨verb=102∨verb=103∨verb=97)∧(0≤wd∧wd≤200)∧(-1≤pr∧pr≤100)∧(verb=97→pr≤30)
end Go.Ulp
namespace Go.Proofs.YtfphmlmgjhebjaaGreatDoor
open Go.RowKit Go.Ulp
set_option maxHeartbeats 16000000
set_option maxRecDepth 100000
end Go.Proofs.YtfphmlmgjhebjaaGreatDoor
namespace Go.Ulp
open Go.RowKit
theorem alS_len (c:UInt8) (S:List UInt8):(alS c S).length≤S.length+1:=by
 unfold alS
 have h:=congrArg List.length (ahead_from c S)
 rw [List.length_append] at h
 split
 ·omega
 ·rw [List.length_append,List.length_cons];omega
theorem wvS_len (verb:Int) (al:Bool) (pr x pd:Int) (h0:0≤x) (h1:x<18446744073709551616) (hp: -1≤pr∧pr≤100) (hd:(fv x).1≠0→IsDec (dA (fv x)) (dB (fv x)) pd) (hpb: -1200≤pd∧pd≤1200):
 (wvS verb al pr x pd).length≤3000:=by
 have hk:wvP pr≤100:=by unfold wvP;split<;>omega
 unfold wvS
 split
 ·exact fxT_len x 0 (wvP pr) h0 h1 (by omega)
 split
 ·have:=scT_len x 0 pd (wvP pr) (by omega) hd hpb
  omega
 split
 ·exact gnT_len al x pd (max (wvP pr) 1-1) h0 h1 (by omega) hd hpb
 split
 ·have:=hexTx_len x h0 h1;omega
 ·have:=hexFx_len x 0 (wvP pr) h0 h1 (by omega);omega
theorem wvT_len (verb:Int) (al:Bool) (pr x pd:Int) (h0:0≤x) (h1:x<18446744073709551616) (hp: -1≤pr∧pr≤100) (hd:(fv x).1≠0→IsDec (dA (fv x)) (dB (fv x)) pd) (hpb: -1200≤pd∧pd≤1200):
 (wvT verb al pr x pd).length≤3001:=by
 have a:=wvS_len verb al pr x pd h0 h1 hp hd hpb
 unfold wvT
 split
 ·have:=alS_len (if verb=97 then 112 else 101) (wvS verb al pr x pd);omega
 ·omega
end Go.Ulp
namespace Go.Proofs.YtfphmlmgjhebjaaGreatDoor
open Go.RowKit Go.Ulp
set_option maxHeartbeats 4000000
theorem valueW_any (verb x:Int) (hvb:verb=101∨verb=102∨verb=103∨verb=97) (h0:0≤x) (h1:x<18446744073709551616) (hv:hasVal x=true) (wd pr:Int) (mi pl bl ze al:Bool) (hp: -1≤pr∧pr≤100) (h30:verb=97→pr≤30) (pd:Int) (hd:(fv x).1≠0→IsDec (dA (fv x)) (dB (fv x)) pd) (hpb: -1200≤pd∧pd≤1200) (w:World) (hT:Tab 1 w) (hT10:Tab10 w):
 Calls Tryz.prog 68 #[.agg #[.int .i64 verb,.bool mi,.bool pl,.bool bl,.bool ze,.bool al,.int .i64 wd,.int .i64 pr],.int .u64 x] w fun e w'=>e=.returned (.string (bsOf (wvT verb al pr x pd)))∧Below w.heap.size w w':=by
 rcases hvb with rfl|rfl|rfl|rfl
 ·exact valueW_e x h0 h1 hv wd pr mi pl bl ze al hp pd hd hpb w hT hT10
 ·exact valueW_f x h0 h1 hv wd pr mi pl bl ze al hp pd w hT hT10
 ·exact valueW_g x h0 h1 hv wd pr mi pl bl ze al hp pd hd hpb w hT hT10
 ·exact valueW_a x h0 h1 hv wd pr mi pl bl ze al ⟨hp.1,h30 rfl⟩ pd w hT hT10
set_option maxHeartbeats 16000000
set_option maxRecDepth 100000
theorem formatW_all (verb wd pr x:Int) (hok:wfO verb wd pr) (h0:0≤x) (h1:x<18446744073709551616) (mi pl bl ze al:Bool) (H B:List UInt8) (lH:H.length≤1) (lB:B.length≤4000) (lB2:verb=97→2≤B.length) (hH:H=sgW x pl bl) (w:World)
 (hN:classOf x=5→B= [110,97,110]) (hI:classOf x=4→B= [105,110,102])
 (hV:classOf x≠5→classOf x≠4→ ∀W,Below w.heap.size w W→Calls Tryz.prog 68 #[.agg #[.int .i64 verb,.bool mi,.bool pl,.bool bl,.bool ze,.bool al,.int .i64 wd,.int .i64 pr],.int .u64 (absOf x)] W fun e w'=>e=.returned (.string (bsOf B))∧Below W.heap.size W w'):
 Calls Tryz.prog 23 #[.agg #[.int .i64 verb,.bool mi,.bool pl,.bool bl,.bool ze,.bool al,.int .i64 wd,.int .i64 pr],.int .u64 x] w fun e w'=>e=.returned (.tuple #[.string (bsOf (wfF verb wd mi (ze&&hasVal x) H B)),.int .i64 0])∧Below w.heap.size w w':=by
 obtain ⟨hvb,hwd,hp,h30⟩:=hok
 have zB:V8 (w.alloc (.cells #[.int .i64 verb,.bool mi,.bool pl,.bool bl,.bool ze,.bool al,.int .i64 wd,.int .i64 pr] 50)) w.heap.size #[.int .i64 verb,.bool mi,.bool pl,.bool bl,.bool ze,.bool al,.int .i64 wd,.int .i64 pr]:=V8.made rfl
 have SG:=hid (fun W=>hH▸signW_any x h0 h1 verb wd pr mi pl bl ze al W)
 have CL:=hid (fun W=>class_any x h0 h1 W)
 have HVX:=hid (fun W=>hasValue_any x h0 h1 W)
 have AB:=hid (fun W=>abs_any x h0 h1 W)
 obtain ⟨n,hn⟩: ∃n,n=wnN wd H B:=⟨_,rfl⟩
 have HR:=hid (show wfF verb wd mi (ze&&hasVal x) H B=if mi=true then H++B++List.replicate n 32 else if (ze&&hasVal x)=true then (if verb=97 then H++ [48,120]++List.replicate n 48++B.drop 2 else H++List.replicate n 48++B) else List.replicate n 32++H++B by rw [hn];rfl)
 generalize wfF verb wd mi (ze&&hasVal x) H B=RR at *
 generalize hasVal x=hx at *
 obtain ⟨c,hc⟩: ∃c,c=classOf x:=⟨_,rfl⟩
 rw [←hc] at CL hN hI hV
 generalize absOf x=ax at *
 have HN5:=hid hN
 have HI4:=hid hI
 have HVV:=hid hV
 have hnw:n≤200:=by rw [hn];unfold wnN;omega
 have RPs:Hid (∀W,Calls Tryz.prog 70 #[.string ⟨#[32]⟩,.int .i64 (n:Int)] W fun e w'=>e=.returned (.string (bsOf (List.replicate n 32)))∧Below W.heap.size W w'):=hid (fun W=>repeat_any 32 n (by omega) W)
 have RPz:Hid (∀W,Calls Tryz.prog 70 #[.string ⟨#[48]⟩,.int .i64 (n:Int)] W fun e w'=>e=.returned (.string (bsOf (List.replicate n 48)))∧Below W.heap.size W w'):=hid (fun W=>repeat_any 48 n (by omega) W)
 obtain ⟨hl,hhl⟩: ∃z,z=(H.length:Int):=⟨_,rfl⟩
 obtain ⟨lb,hlb⟩: ∃z,z=(B.length:Int):=⟨_,rfl⟩
 have k1:IntKind.i64.wrap (wd-hl)=wd-hl:=IntWalk.i64_in _ (by omega)
 have k2:IntKind.i64.wrap (wd-hl-lb)=wd-hl-lb:=IntWalk.i64_in _ (by omega)
 have k3:max (wd-hl-lb) 0=(n:Int):=by rw [hn,hhl,hlb];unfold wnN;omega
 have s1:((bsOf H).size:Int)=hl:=by rw [bs_size,hhl]
 have s2:(bsOf H).size≤100000:=by rw [bs_size];omega
 have s3:((bsOf B).size:Int)=lb:=by rw [bs_size,hlb]
 have s4:(bsOf B).size≤100000:=by rw [bs_size];omega
 have s5:(bsOf (List.replicate n 32)).size≤1000:=by rw [bs_size];simp;omega
 have s6:(bsOf (List.replicate n 48)).size≤1000:=by rw [bs_size];simp;omega
 have s7:(bsOf (H++ [48,120])).size≤100002:=by rw [bs_size,List.length_append];simp;omega
 have s8:(bsOf (B.drop 2)).size≤100000:=by rw [bs_size,List.length_drop];omega
 have a1:bsOf H++(⟨#[48,120]⟩:ByteArray)=bsOf (H++ [48,120]):=bs_app H [48,120]
 have SL:Hid (verb=97→ ∀w,(Instr.slice 9 (.string (bsOf B)) (some (.int .i64 2)) none none).run Tryz.prog w=.ok (.string (bsOf (B.drop 2))) w):=hid (fun h=>by
  have:=lB2 h
  have sl:=slice_from (P:=Tryz.prog) Tryz.underlying9 B 2 (by omega) (by omega)
  rwa [show (2:Int).toNat=2 from rfl] at sl)
 generalize hD:B.drop 2=D at *
 obtain ⟨mo,hmo⟩: ∃m:Int,m=if verb=97 then 30 else 100:=⟨_,rfl⟩
 have HMO:=hid hmo
 have wl1: ¬wd<0:=by omega
 have wl2: ¬wd>200:=by omega
 have wl3: ¬pr< -1:=by omega
 have wl4: ¬pr>mo:=by rw [hmo];split;(have:=h30 (by assumption);omega);omega
 have HVB:=hid hvb
 clear hD hn hhl hlb hc hH hnw lH lB lB2 hwd hp h0 h1 hN hI hV hmo h30 hvb
 obtain ⟨y0,y1,y2,y3,y4,y5,y6,y7⟩:=zB.cells.1
 go_enter Tryz.func23,Tryz.ntmps23
 go_upto_if 12 with fail
 go_cut [6] (fun s wx=>s=.int .i64 mo∧wx=w.alloc (.cells #[.int .i64 verb,.bool mi,.bool pl,.bool bl,.bool ze,.bool al,.int .i64 wd,.int .i64 pr] 50))
 case first=>
  by_cases h:verb=97
  ·have e:=HMO.out
   rw [if_pos h] at e
   subst e h
   go_wp2_with fail
   go_meet
   exact ⟨rfl,rfl⟩
  ·have e:=HMO.out
   rw [if_neg h] at e
   subst e
   have q:(verb==97)=false:=beq_eq_false_iff_ne.2 h
   go_wp2_with fail
   go_meet
   exact ⟨rfl,rfl⟩
 case rest=>
 obtain ⟨rfl,rfl⟩:=hcut
 clear HMO
 go_upto_region 4 with fail
 go_cut [51] (fun s wx=>s=.bool false∧wx=w.alloc (.cells #[.int .i64 verb,.bool mi,.bool pl,.bool bl,.bool ze,.bool al,.int .i64 wd,.int .i64 pr] 50))
 case first=>as_aux_lemma=>
  clear SG CL HVX AB HR HN5 HI4 HVV RPs RPz k1 k2 k3 s1 s2 s3 s4 s5 s6 s7 s8 a1 SL
  rcases HVB.out with e|e|e|e
  all_goals
   subst e
   go_wp2_with fail
   go_meet
   exact ⟨rfl,rfl⟩
 case rest=>
 obtain ⟨rfl,rfl⟩:=hcut
 clear HVB wl1 wl2 wl3 wl4
 go_upto_block 0 with (first|(go_at_call 67;(with_reducible refine (SG.out _).mono ?_);rintro en w3 ⟨rfl,hb3⟩)|(go_at_call 33;(with_reducible refine (CL.out _).mono ?_);rintro en w4 ⟨rfl,rfl⟩))
 have yb3:Below w.heap.size w w3:=by (repeat' first|(with_reducible first|assumption|apply bR|apply bA|apply bN|apply bD|apply bL|apply bS)|refine bT ?_ (by assumption)|go_size)
 have zB3:=zB.below hb3
 clear zB hb3 y0 y1 y2 y3 y4 y5 y6 y7 SG
 obtain ⟨y0,y1,y2,y3,y4,y5,y6,y7⟩:=zB3.cells.1
 go_cut [8] (fun s wx=>s=.string (bsOf B)∧Below w3.heap.size w3 wx)
 case first=>as_aux_lemma=>
  clear HVX HR RPs RPz k1 k2 k3 s1 s2 s3 s4 s5 s6 s7 s8 a1 SL
  by_cases c5:c=5
  ·have e:=HN5.out c5
   have q:(c==5)=true:=beq_iff_eq.2 c5
   have E:=hid e
   clear e
   go_wp2_with fail
   go_meet
   exact ⟨by rw [E.out];rfl,Below.refl _ _⟩
  ·have q:(c==5)=false:=beq_eq_false_iff_ne.2 c5
   by_cases c4:c=4
   ·have E:=hid (HI4.out c4)
    have q4:(c==4)=true:=beq_iff_eq.2 c4
    go_wp2_with fail
    go_meet
    exact ⟨by rw [E.out];rfl,Below.refl _ _⟩
   ·have q4:(c==4)=false:=beq_eq_false_iff_ne.2 c4
    have HV:=hid (HVV.out c5 c4)
    clear HVV HN5 HI4
    go_upto_region 8 with fail
    go_region_with (first
     |(go_at_call 69;(with_reducible refine (AB.out _).mono ?_);rintro en w4 ⟨rfl,rfl⟩)
     |(go_at_call 68;(with_reducible refine (HV.out _ (by (repeat' first|(with_reducible first|assumption|apply bR|apply bA|apply bN|apply bD|apply bL|apply bS)|refine bT ?_ (by assumption)|go_size))).mono ?_);rintro en w5 ⟨rfl,hb5⟩))
    all_goals
     go_wp2_with fail
     go_meet
     exact ⟨rfl,by clear yb3;first|exact hb5|exact below_trans (by exact Below.refl _ _) hb5|(repeat' first|(with_reducible first|assumption|apply bR|apply bA|apply bN|apply bD|apply bL|apply bS)|refine bT ?_ (by assumption)|go_size)⟩
 case rest=>
 obtain ⟨rfl,hbx⟩:=hcut
 obtain ⟨W5,hW5⟩: ∃W,W=wc:=⟨_,rfl⟩
 subst hW5
 have yb5:Below w.heap.size w W5:=below_trans yb3 hbx
 have zB5:=zB3.below hbx
 clear zB3 hbx y0 y1 y2 y3 y4 y5 y6 y7 CL AB HN5 HI4 HVV yb3
 obtain ⟨z0,z1,-,-,z4,-,z6,-⟩:=zB5.cells.1
 clear zB5
 go_upto_region 14 with fail
 cases mi
 ·cases ze
  ·have HE:=hid (show RR=List.replicate n 32++H++B from HR.out)
   clear HR HVX
   go_wp2_with (first
    |(go_at_call 70;(first|(with_reducible refine (RPs.out _).mono ?_)|(with_reducible refine (RPz.out _).mono ?_));rintro en w8 ⟨rfl,hb8⟩)
    |(go_at_call 47;(with_reducible refine (HVX.out _).mono ?_);rintro en w7 ⟨rfl,rfl⟩))
   go_ret2
   exact ⟨by rw [HE.out,←bs_app,←bs_app];first|rfl|(rw [←bs_app];rfl),by (repeat' first|(with_reducible first|assumption|apply bR|apply bA|apply bN|apply bD|apply bL|apply bS)|refine bT ?_ (by assumption)|go_size)⟩
  ·cases hx
   ·have HE:=hid (show RR=List.replicate n 32++H++B from HR.out)
    clear HR
    go_wp2_with (first
     |(go_at_call 70;(first|(with_reducible refine (RPs.out _).mono ?_)|(with_reducible refine (RPz.out _).mono ?_));rintro en w8 ⟨rfl,hb8⟩)
     |(go_at_call 47;(with_reducible refine (HVX.out _).mono ?_);rintro en w7 ⟨rfl,rfl⟩))
    go_ret2
    exact ⟨by rw [HE.out,←bs_app,←bs_app];first|rfl|(rw [←bs_app];rfl),by (repeat' first|(with_reducible first|assumption|apply bR|apply bA|apply bN|apply bD|apply bL|apply bS)|refine bT ?_ (by assumption)|go_size)⟩
   ·by_cases h97:verb=97
    ·have HE:=hid (show RR=H++ [48,120]++List.replicate n 48++D by rw [HR.out];simp [h97])
     have sl:=SL.out h97
     subst h97
     clear HR SL
     go_upto_region 18 with (go_at_call 47;(with_reducible refine (HVX.out _).mono ?_);rintro en w7 ⟨rfl,rfl⟩)
     go_region
     all_goals
      go_wp2_with (first
       |(go_at_call 70;(first|(with_reducible refine (RPs.out _).mono ?_)|(with_reducible refine (RPz.out _).mono ?_));rintro en w8 ⟨rfl,hb8⟩)
       |(go_at_call 47;(with_reducible refine (HVX.out _).mono ?_);rintro en w7 ⟨rfl,rfl⟩))
      go_ret2
      exact ⟨by rw [HE.out,←bs_app,←bs_app];first|rfl|(rw [←bs_app];rfl),by (repeat' first|(with_reducible first|assumption|apply bR|apply bA|apply bN|apply bD|apply bL|apply bS)|refine bT ?_ (by assumption)|go_size)⟩
    ·have HE:=hid (show RR=H++List.replicate n 48++B by rw [HR.out];simp [h97])
     have q:(verb==97)=false:=beq_eq_false_iff_ne.2 h97
     clear HR SL h97
     go_wp2_with (first
      |(go_at_call 70;(first|(with_reducible refine (RPs.out _).mono ?_)|(with_reducible refine (RPz.out _).mono ?_));rintro en w8 ⟨rfl,hb8⟩)
      |(go_at_call 47;(with_reducible refine (HVX.out _).mono ?_);rintro en w7 ⟨rfl,rfl⟩))
     go_ret2
     exact ⟨by rw [HE.out,←bs_app,←bs_app];first|rfl|(rw [←bs_app];rfl),by (repeat' first|(with_reducible first|assumption|apply bR|apply bA|apply bN|apply bD|apply bL|apply bS)|refine bT ?_ (by assumption)|go_size)⟩
 ·have HE:=hid (show RR=H++B++List.replicate n 32 from HR.out)
  clear HR HVX
  go_wp2_with (first
   |(go_at_call 70;(first|(with_reducible refine (RPs.out _).mono ?_)|(with_reducible refine (RPz.out _).mono ?_));rintro en w8 ⟨rfl,hb8⟩)
   |(go_at_call 47;(with_reducible refine (HVX.out _).mono ?_);rintro en w7 ⟨rfl,rfl⟩))
  go_ret2
  exact ⟨by rw [HE.out,←bs_app,←bs_app];first|rfl|(rw [←bs_app];rfl),by (repeat' first|(with_reducible first|assumption|apply bR|apply bA|apply bN|apply bD|apply bL|apply bS)|refine bT ?_ (by assumption)|go_size)⟩
end Go.Proofs.YtfphmlmgjhebjaaGreatDoor
