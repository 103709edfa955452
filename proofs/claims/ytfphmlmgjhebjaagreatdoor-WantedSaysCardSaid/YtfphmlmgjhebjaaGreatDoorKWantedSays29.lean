/- WantedSays: what the proof leans on, part 29 (Wa17 Re12 Wa18). -/
import Derived.Test.YtfphmlmgjhebjaaGreatDoorKWantedSays17
import Derived.Test.YtfphmlmgjhebjaaGreatDoorKWantedSays18
import Derived.Test.YtfphmlmgjhebjaaGreatDoorKWantedSays24
import Derived.Test.YtfphmlmgjhebjaaGreatDoorKWantedSays28
set_option linter.unusedVariables false
set_option linter.unusedSimpArgs false
namespace Go.Proofs.YtfphmlmgjhebjaaGreatDoor
open Go.RowKit Go.Ulp
set_option maxHeartbeats 16000000
set_option maxRecDepth 100000
theorem bodyW_e (x:Int) (h0:0≤x) (h1:x<18446744073709551616) (hv:hasVal x=true) (wd pr:Int) (mi pl bl ze al:Bool) (hp: -1≤pr∧pr≤100) (pd:Int) (hd:(fv x).1≠0→IsDec (dA (fv x)) (dB (fv x)) pd) (hpb: -1200≤pd∧pd≤1200) (S:List UInt8) (hS:S=scT x (wvP pr) pd 0) (w:World):
 Calls Tryz.prog 77 #[.agg #[.int .i64 101,.bool mi,.bool pl,.bool bl,.bool ze,.bool al,.int .i64 wd,.int .i64 pr],.int .u64 x] w fun e w'=>e=.returned (.string (bsOf (if al=true then alR S else S)))∧Below w.heap.size w w':=by
 obtain ⟨p,hpp⟩: ∃p,p=wvP pr:=⟨_,rfl⟩
 rw [←hpp] at hS
 have hpi:(p:Int)=if pr<0 then 6 else pr:=by rw [hpp];unfold wvP;split<;>omega
 have SX0:=fun W=>sciText_any x 0 pd p (p+1) rfl h0 h1 hv (by omega) (by omega) (by omega) hd hpb W
 have lS:S.length≤100000:=by rw [hS];have:=scT_len x 0 pd p (by omega) hd hpb;omega
 rw [←hS] at SX0
 obtain ⟨dI,hdI⟩: ∃d:Int,d=((p+1:Nat):Int):=⟨_,rfl⟩
 rw [←hdI] at SX0
 have FX:=hid SX0
 obtain ⟨RR,hRR⟩: ∃r,r=if al=true then alR S else S:=⟨_,rfl⟩
 rw [←hRR]
 have HR:=hid hRR
 clear hS hpp h0 h1 hv hRR SX0 hd hpb
 have zB:V8 (w.alloc (.cells #[.int .i64 101,.bool mi,.bool pl,.bool bl,.bool ze,.bool al,.int .i64 wd,.int .i64 pr] 50)) w.heap.size #[.int .i64 101,.bool mi,.bool pl,.bool bl,.bool ze,.bool al,.int .i64 wd,.int .i64 pr]:=V8.made rfl
 obtain ⟨⟨y0,-,-,-,-,-,-,y7⟩,-⟩:=zB.cells
 obtain ⟨dP,hdP⟩: ∃z:Int,z=if pr= -1 then 6 else pr:=⟨_,rfl⟩
 have hpd:(p:Int)=dP:=by rw [hpi,hdP];split<;>split<;>omega
 have hd1:dI=dP+1:=by omega
 have w1:IntKind.i64.wrap (dP+1)=dI:=by rw [hd1];exact IntWalk.i64_in _ (by omega)
 have HDP:=hid hdP
 clear hpi hpd hdP hdI hd1
 go_enter Tryz.func77,Tryz.ntmps77
 go_upto_if 17 with fail
 go_cut [5] (fun s5 wx=>s5=.int .i64 dP∧wx=w.alloc (.cells #[.int .i64 101,.bool mi,.bool pl,.bool bl,.bool ze,.bool al,.int .i64 wd,.int .i64 pr] 50))
 case first=>
  clear FX
  by_cases hm:pr= -1
  ·have h9:=HDP.out
   rw [if_pos hm] at h9
   subst h9
   subst hm
   clear HDP
   go_wp2_with fail
   go_meet
   exact ⟨rfl,rfl⟩
  ·have h9:=HDP.out
   rw [if_neg hm] at h9
   subst h9
   clear HDP
   go_wp2_with fail
   go_meet
   exact ⟨rfl,rfl⟩
 case rest=>
 obtain ⟨rfl,rfl⟩:=hcut
 go_upto_region 30 with (go_at_call 137;(with_reducible refine (FX.out _).mono ?_);rintro en w5 ⟨rfl,hb5⟩)
 have yb5:Below w.heap.size w w5:=by (repeat' first|(with_reducible first|assumption|apply bR|apply bA|apply bN|apply bD|apply bL|apply bS)|refine bT ?_ (by assumption)|go_size)
 obtain ⟨⟨z0,-,-,-,-,z5,-,-⟩,-⟩:=(zB.below hb5).cells
 clear zB hb5 FX y0 y7 HDP
 have IB1:=hid (fun w=>Tryz.strings_Index_one (bsOf S) 101 w)
 have IB2:=hid (fun w=>Tryz.strings_Index_one (bsOf S) 112 w)
 rw [bs_list] at IB1 IB2
 have SA1:=hid (slice_at (P:=Tryz.prog) Tryz.underlying9 S 101)
 have SA2:=hid (slice_at (P:=Tryz.prog) Tryz.underlying9 S 112)
 have N1:=hid ((ix_cut 101 S).1)
 have AC:=hid (alR_cut S)
 obtain ⟨i1,hi1⟩: ∃z,z=Lib.indexByte S 101:=⟨_,rfl⟩
 obtain ⟨i2,hi2⟩: ∃z,z=Lib.indexByte S 112:=⟨_,rfl⟩
 rw [←hi1] at IB1 SA1 N1
 rw [←hi2] at IB2 SA2 AC
 have hI1:Hid (∀w,Calls Tryz.prog 135 #[.string (bsOf S),.string ⟨#[101]⟩] w fun e w'=>e=.returned (.int .i64 i1)∧w=w'):=hid (fun w=>(IB1.out w).mono (by rintro e w' ⟨rfl,rfl⟩;exact ⟨rfl,rfl⟩))
 have hI2:Hid (∀w,Calls Tryz.prog 135 #[.string (bsOf S),.string ⟨#[112]⟩] w fun e w'=>e=.returned (.int .i64 i2)∧w=w'):=hid (fun w=>(IB2.out w).mono (by rintro e w' ⟨rfl,rfl⟩;exact ⟨rfl,rfl⟩))
 have CT:=hid (fun w=>Tryz.strings_Contains_one (bsOf S) 46 w)
 have hCT:Hid (∀w,Calls Tryz.prog 74 #[.string (bsOf S),.string ⟨#[46]⟩] w fun e w'=>e=.returned (.bool (S.contains 46))∧w=w'):=hid (fun w=>(CT.out w).mono (by rintro e w' ⟨rfl,rfl⟩;exact ⟨by rw [bs_list,ib_has],rfl⟩))
 obtain ⟨A1,hA1⟩: ∃M,M=aheadB 101 S:=⟨_,rfl⟩
 obtain ⟨B1,hB1⟩: ∃M,M=fromB 101 S:=⟨_,rfl⟩
 obtain ⟨A3,hA3⟩: ∃M,M=aheadB 112 S:=⟨_,rfl⟩
 obtain ⟨B3,hB3⟩: ∃M,M=fromB 112 S:=⟨_,rfl⟩
 have l1:A1.length+B1.length=S.length:=by rw [hA1,hB1,←List.length_append,ahead_from]
 have l3:A3.length+B3.length=S.length:=by rw [hA3,hB3,←List.length_append,ahead_from]
 rw [←hA1,←hB1] at SA1 N1
 rw [←hA1,←hB1,←hA3,←hB3] at AC
 rw [←hA3,←hB3] at SA2
 have HRQ:=hid (show RR=if al=true then alR S else S from HR.out)
 have HPT:Hid (S.contains 46=true→alR S=S):=hid (fun h=>by unfold alR;rw [if_pos h])
 have L1:=hid (show A1.length+B1.length≤100000 by omega)
 have L3:=hid (show A3.length+B3.length≤100000 by omega)
 obtain ⟨pt,hpt⟩: ∃k,k=S.contains 46:=⟨_,rfl⟩
 rw [←hpt] at hCT HPT AC
 generalize alR S=AS at *
 clear IB1 IB2 hi1 hi2 CT hA1 hB1 hA3 hB3 l1 l3 lS hpt HR
 generalize hQ:bsOf S=Q at *
 cases al
 ·have HF:=hid (show RR=S from HRQ.out)
  clear HRQ HPT AC SA1 SA2 N1
  go_wp2_with fail
  go_ret
  exact ⟨by rw [HF.out,hQ];rfl,by (repeat' first|(with_reducible first|assumption|apply bR|apply bA|apply bN|apply bD|apply bL|apply bS)|refine bT ?_ (by assumption)|go_size)⟩
 ·have HF:=hid (show RR=AS from HRQ.out)
  clear HRQ
  cases pt
  ·have AC2:=hid (AC.out rfl)
   clear HPT AC
   go_wp2_with (go_at_call 74;(with_reducible refine (hCT.out _).mono ?_);rintro en w8 ⟨rfl,rfl⟩)
   have zA0:(w5.alloc (.cells #[.string ⟨#[101]⟩,.string ⟨#[112]⟩] 9)).cell? ⟨w5.heap.size,0,none⟩=some (.string ⟨#[101]⟩):=by rw [World.cell?_alloc_at (hn:=rfl)];rfl
   have zA1:(w5.alloc (.cells #[.string ⟨#[101]⟩,.string ⟨#[112]⟩] 9)).cell? ⟨w5.heap.size,1,none⟩=some (.string ⟨#[112]⟩):=by rw [World.cell?_alloc_at (hn:=rfl)];rfl
   have yA:=below_trans yb5 (below_alloc w5 (.cells #[.string ⟨#[101]⟩,.string ⟨#[112]⟩] 9))
   obtain ⟨WA,hWA⟩: ∃W,W=w5.alloc (.cells #[.string ⟨#[101]⟩,.string ⟨#[112]⟩] 9):=⟨_,rfl⟩
   rw [←hWA] at zA0 zA1 yA ⊢
   obtain ⟨gA,hgA⟩: ∃g,g=w5.heap.size:=⟨_,rfl⟩
   rw [←hgA] at zA0 zA1 ⊢
   clear hWA hgA z5 yb5
   go_loopw [9,10,117] (fun s9 s10 s117 wr=> ∃(j:Nat) (A B:List UInt8),s117=.int .i64 (j:Int)∧s9=.string (bsOf A)∧s10=.string (bsOf B)∧((j=0∧A=S∧B= [])∨(j=1∧A=A1∧B=B1)∨(j=2∧(A,B)=if i2<0 then (A1,B1) else (A3,B3)))∧Below WA.heap.size WA wr) (fun _ _ s117 _=>2-(intOf s117).toNat)
   case atStart=>exact ⟨0,S,[],rfl,by rw [hQ],rfl,.inl ⟨rfl,rfl,rfl⟩,Below.refl _ _⟩
   case round=>
    obtain ⟨j,A,B,rfl,rfl,rfl,hcase,yr⟩:=hrel
    rcases hcase with ⟨rfl,eA,eB⟩|⟨rfl,eA,eB⟩|⟨rfl,hAB⟩
    ·have q0:=(yr.cell (p:=⟨gA,0,none⟩) (World.block_lt_of_cell? _ _ zA0)).trans zA0
     by_cases hi:i1<0
     ·obtain ⟨-,e1,e2⟩:=N1.out (by omega)
      have e1:=hid e1
      have e2:=hid e2
      have eA:=hid eA
      have eB:=hid eB
      go_wp2_with (go_at_call 135;(with_reducible refine (hI1.out _).mono ?_);rintro en w9 ⟨rfl,rfl⟩)
      go_roundw
      case rel=>exact ⟨1,A1,B1,by go_num,by rw [e1.out,hQ],by rw [e2.out],.inr (.inl ⟨rfl,rfl,rfl⟩),by (repeat' first|(with_reducible first|assumption|apply bR|apply bA|apply bN|apply bD|apply bL|apply bS)|refine bT ?_ (by assumption)|go_size)⟩
      case measure=>simp [intOf]
     ·obtain ⟨sa,sb⟩:=SA1.out (by omega)
      go_upto_region 37 with (go_at_call 135;(with_reducible refine (hI1.out _).mono ?_);rintro en w9 ⟨rfl,rfl⟩)
      go_region
      go_wp2_with fail
      go_roundw
      case rel=>exact ⟨1,A1,B1,by go_num,rfl,rfl,.inr (.inl ⟨rfl,rfl,rfl⟩),by (repeat' first|(with_reducible first|assumption|apply bR|apply bA|apply bN|apply bD|apply bL|apply bS)|refine bT ?_ (by assumption)|go_size)⟩
      case measure=>simp [intOf]
    ·have q1:=(yr.cell (p:=⟨gA,1,none⟩) (World.block_lt_of_cell? _ _ zA1)).trans zA1
     have eA:=hid eA
     have eB:=hid eB
     by_cases hi:i2<0
     ·go_wp2_with (go_at_call 135;(with_reducible refine (hI2.out _).mono ?_);rintro en w9 ⟨rfl,rfl⟩)
      go_roundw
      case rel=>exact ⟨2,_,_,by go_num,rfl,rfl,.inr (.inr ⟨rfl,by rw [if_pos (by omega)]⟩),by (repeat' first|(with_reducible first|assumption|apply bR|apply bA|apply bN|apply bD|apply bL|apply bS)|refine bT ?_ (by assumption)|go_size)⟩
      case measure=>simp [intOf]
     ·obtain ⟨sa,sb⟩:=SA2.out (by omega)
      go_upto_region 37 with (go_at_call 135;(with_reducible refine (hI2.out _).mono ?_);rintro en w9 ⟨rfl,rfl⟩)
      go_region
      go_wp2_with fail
      go_roundw
      case rel=>exact ⟨2,A3,B3,by go_num,rfl,rfl,.inr (.inr ⟨rfl,by rw [if_neg (by omega)]⟩),by (repeat' first|(with_reducible first|assumption|apply bR|apply bA|apply bN|apply bD|apply bL|apply bS)|refine bT ?_ (by assumption)|go_size)⟩
      case measure=>simp [intOf]
    ·have HF2:=hid (show RR=A++46::B by rw [HF.out];exact AC2.out A B hAB)
     have lAB:A.length+B.length≤100000:=by
      by_cases hi:i2<0
      ·rw [if_pos hi] at hAB;injection hAB with a b;rw [a,b];exact L1.out
      ·rw [if_neg hi] at hAB;injection hAB with a b;rw [a,b];exact L3.out
     have sA:(bsOf A).size≤100000:=by rw [bs_size];omega
     have sB:(bsOf B).size≤100000:=by rw [bs_size];omega
     have sAp:(bsOf (A++ [46])).size≤100001:=by rw [bs_size,List.length_append];simp;omega
     have a1:bsOf A++(⟨#[46]⟩:ByteArray)=bsOf (A++ [46]):=bs_app A [46]
     have a2:bsOf (A++ [46])++bsOf B=bsOf (A++46::B):=by rw [bs_app,List.append_assoc];rfl
     clear hAB lAB AC2 SA1 SA2 N1 hI1 hI2 zA0 zA1 HF hCT
     go_wp2_with fail
     go_ret
     exact ⟨by rw [HF2.out];first|rfl|(rw [←a2,←a1];rfl),by (repeat' first|(with_reducible first|assumption|apply bR|apply bA|apply bN|apply bD|apply bL|apply bS)|refine bT ?_ (by assumption)|go_size)⟩
  ·have HF2:=hid (show RR=S by rw [HF.out];exact HPT.out rfl)
   clear HF HPT AC SA1 SA2 N1
   go_wp2_with (go_at_call 74;(with_reducible refine (hCT.out _).mono ?_);rintro en w8 ⟨rfl,rfl⟩)
   go_ret
   exact ⟨by rw [HF2.out,hQ];rfl,by (repeat' first|(with_reducible first|assumption|apply bR|apply bA|apply bN|apply bD|apply bL|apply bS)|refine bT ?_ (by assumption)|go_size)⟩
theorem bodyW_a (x:Int) (h0:0≤x) (h1:x<18446744073709551616) (hv:hasVal x=true) (hn:negB x=false) (wd pr:Int) (mi pl bl ze al:Bool) (hp: -1≤pr∧pr≤100) (S:List UInt8) (hS:S=if pr<0 then hexTx x else hexFx x (wvP pr) 0) (w:World):
 Calls Tryz.prog 77 #[.agg #[.int .i64 97,.bool mi,.bool pl,.bool bl,.bool ze,.bool al,.int .i64 wd,.int .i64 pr],.int .u64 x] w fun e w'=>e=.returned (.string (bsOf (if al=true then alR S else S)))∧Below w.heap.size w w':=by
 have lS:S.length≤100000:=by
  rw [hS]
  split
  ·have:=hexTx_len x h0 h1;omega
  ·have hk:wvP pr≤100:=by unfold wvP;split<;>omega
   have:=hexFx_len x 0 (wvP pr) h0 h1 (by omega);omega
 obtain ⟨RR,hRR⟩: ∃r,r=if al=true then alR S else S:=⟨_,rfl⟩
 rw [←hRR]
 have HR:=hid hRR
 clear hRR
 have zB:V8 (w.alloc (.cells #[.int .i64 97,.bool mi,.bool pl,.bool bl,.bool ze,.bool al,.int .i64 wd,.int .i64 pr] 50)) w.heap.size #[.int .i64 97,.bool mi,.bool pl,.bool bl,.bool ze,.bool al,.int .i64 wd,.int .i64 pr]:=V8.made rfl
 obtain ⟨⟨y0,-,-,-,-,-,-,y7⟩,-⟩:=zB.cells
 go_enter Tryz.func77,Tryz.ntmps77
 go_upto_if 17 with fail
 go_cut [5] (fun _ wx=>wx=w.alloc (.cells #[.int .i64 97,.bool mi,.bool pl,.bool bl,.bool ze,.bool al,.int .i64 wd,.int .i64 pr] 50))
 case first=>
  clear hS
  cases hm:(pr== -1)
  all_goals
   clear hm
   go_wp2_with fail
   go_meet
   rfl
 case rest=>
 obtain rfl:=hcut
 go_upto_block 0 with fail
 go_cut [6] (fun s wx=>s=.string (bsOf S)∧Below w.heap.size w wx∧V8 wx w.heap.size #[.int .i64 97,.bool mi,.bool pl,.bool bl,.bool ze,.bool al,.int .i64 wd,.int .i64 pr])
 case first=>as_aux_lemma=>
  clear HR
  by_cases hneg:pr= -1
  ·subst hneg
   rw [if_pos (by decide)] at hS
   have FX:=hid (fun W=>rHexText_any x h0 h1 W)
   rw [←hS] at FX
   clear hS h0 h1 hv hn
   go_wp2_with (go_at_call 138;(with_reducible refine (FX.out _).mono ?_);rintro en w5 ⟨rfl,hb5⟩)
   go_meet
   exact ⟨rfl,by (repeat' first|(with_reducible first|assumption|apply bR|apply bA|apply bN|apply bD|apply bL|apply bS)|refine bT ?_ (by assumption)|go_size),zB.below hb5⟩
  ·rw [if_neg (by omega)] at hS
   obtain ⟨n,hpn⟩: ∃n:Nat,pr=(n:Int):=Int.eq_ofNat_of_zero_le (by omega)
   have hwv:wvP pr=n:=by unfold wvP;rw [if_neg (by omega)];omega
   rw [hwv] at hS
   by_cases hz:(fv x).1=0
   ·have ZE:=hid (show ∀w,Calls Tryz.prog 50 #[.int .u64 x] w fun e w'=>e=.returned (.bool true)∧w=w' from fun w=>by
     have h9:=hIsZero_any x h0 h1 w
     rwa [decide_eq_true ((zero_class x h0 h1 hv).2 hz)] at h9)
    have hS2:S=48::120::48::((if n=0 then [] else 46::List.replicate n 48)++ [112,43,48]):=by rw [hS];unfold hexFx;rw [if_pos hz,hn];rfl
    by_cases hn0:n=0
    ·subst hn0
     rw [if_pos rfl] at hS2
     have hp0:pr=0:=by omega
     subst hp0
     have c0:(⟨#[48,120,48]⟩:ByteArray)++(⟨#[112,43,48]⟩:ByteArray)=bsOf S:=by rw [hS2];exact bs_app [48,120,48] [112,43,48]
     clear h0 h1 hv hn hS hz hpn hwv hS2
     go_wp2_with (go_at_call 50;(with_reducible refine (ZE.out _).mono ?_);rintro en w5 ⟨rfl,rfl⟩)
     go_meet
     exact ⟨rfl,by (repeat' first|(with_reducible first|assumption|apply bR|apply bA|apply bN|apply bD|apply bL|apply bS)|refine bT ?_ (by assumption)|go_size),zB⟩
    ·rw [if_neg hn0] at hS2
     have SX:=hid (show ∀w,Calls Tryz.prog 139 #[.agg #[.bool false,.slice none 0 0],.int .i64 pr] w fun e w'=>e=.returned (.string (bsOf (List.replicate n 48)))∧Below w.heap.size w w' from fun w=>by
      have h9:=sixteens_any 0 n (.agg #[.bool false,.slice none 0 0]) w ⟨none,0,rfl,Nz.nil' none 0 (by decide)⟩ (by decide) (by omega)
      rwa [hxD_zero,←hpn] at h9)
     have c1:(⟨#[46]⟩:ByteArray)++bsOf (List.replicate n 48)=bsOf (46::List.replicate n 48):=bs_app [46] _
     have c2:(⟨#[48,120,48]⟩:ByteArray)++bsOf (46::List.replicate n 48)=bsOf (48::120::48::46::List.replicate n 48):=bs_app [48,120,48] _
     have c3:bsOf (48::120::48::46::List.replicate n 48)++(⟨#[112,43,48]⟩:ByteArray)=bsOf S:=by rw [hS2];exact bs_app _ [112,43,48]
     have s1:(bsOf (List.replicate n 48)).size≤1000:=by rw [bs_size];simp;omega
     have s2:(bsOf (46::List.replicate n 48)).size≤1000:=by rw [bs_size];simp;omega
     have s3:(bsOf (48::120::48::46::List.replicate n 48)).size≤1000:=by rw [bs_size];simp;omega
     generalize bsOf (48::120::48::46::List.replicate n 48)=Q3 at *
     generalize bsOf (46::List.replicate n 48)=Q2 at *
     generalize bsOf (List.replicate n 48)=Q1 at *
     have g1:pr>0:=by omega
     clear h0 h1 hv hn hS hz hpn hwv hS2 hn0
     go_wp2_with (first
      |(go_at_call 50;(with_reducible refine (ZE.out _).mono ?_);rintro en w4 ⟨rfl,rfl⟩)
      |(go_at_call 139;(with_reducible refine (SX.out _).mono ?_);rintro en w5 ⟨rfl,hb5⟩))
     go_meet
     exact ⟨rfl,by (repeat' first|(with_reducible first|assumption|apply bR|apply bA|apply bN|apply bD|apply bL|apply bS)|refine bT ?_ (by assumption)|go_size),zB.below hb5⟩
   ·have ZE:=hid (show ∀w,Calls Tryz.prog 50 #[.int .u64 x] w fun e w'=>e=.returned (.bool false)∧w=w' from fun w=>by
     have h9:=hIsZero_any x h0 h1 w
     rwa [decide_eq_false (fun h=>hz ((zero_class x h0 h1 hv).1 h))] at h9)
    have HF0:=fun w=>hexFixed_any x 0 n h0 h1 hv hz (by omega) (by omega) (by omega) w
    have e1:hexFx x n 0=hfT x n 0:=by unfold hexFx;rw [if_neg hz]
    rw [←e1,←hS,←hpn] at HF0
    have FX:=hid HF0
    clear h0 h1 hv hn hS hz hpn hwv HF0 e1
    go_wp2_with (first
     |(go_at_call 50;(with_reducible refine (ZE.out _).mono ?_);rintro en w4 ⟨rfl,rfl⟩)
     |(go_at_call 140;(with_reducible refine (FX.out _).mono ?_);rintro en w5 ⟨rfl,hb5⟩))
    go_meet
    exact ⟨rfl,by (repeat' first|(with_reducible first|assumption|apply bR|apply bA|apply bN|apply bD|apply bL|apply bS)|refine bT ?_ (by assumption)|go_size),zB.below hb5⟩
 case rest=>
 obtain ⟨rfl,yb,zB5⟩:=hcut
 obtain ⟨w5,hw5⟩: ∃W,W=wc:=⟨_,rfl⟩
 subst hw5
 have yb5:Below w.heap.size w w5:=yb
 obtain ⟨⟨z0,-,-,-,-,z5,-,-⟩,-⟩:=zB5.cells
 clear zB zB5 y0 y7 yb hS h0 h1 hv hn
 have IB1:=hid (fun w=>Tryz.strings_Index_one (bsOf S) 101 w)
 have IB2:=hid (fun w=>Tryz.strings_Index_one (bsOf S) 112 w)
 rw [bs_list] at IB1 IB2
 have SA1:=hid (slice_at (P:=Tryz.prog) Tryz.underlying9 S 101)
 have SA2:=hid (slice_at (P:=Tryz.prog) Tryz.underlying9 S 112)
 have N1:=hid ((ix_cut 101 S).1)
 have AC:=hid (alR_cut S)
 obtain ⟨i1,hi1⟩: ∃z,z=Lib.indexByte S 101:=⟨_,rfl⟩
 obtain ⟨i2,hi2⟩: ∃z,z=Lib.indexByte S 112:=⟨_,rfl⟩
 rw [←hi1] at IB1 SA1 N1
 rw [←hi2] at IB2 SA2 AC
 have hI1:Hid (∀w,Calls Tryz.prog 135 #[.string (bsOf S),.string ⟨#[101]⟩] w fun e w'=>e=.returned (.int .i64 i1)∧w=w'):=hid (fun w=>(IB1.out w).mono (by rintro e w' ⟨rfl,rfl⟩;exact ⟨rfl,rfl⟩))
 have hI2:Hid (∀w,Calls Tryz.prog 135 #[.string (bsOf S),.string ⟨#[112]⟩] w fun e w'=>e=.returned (.int .i64 i2)∧w=w'):=hid (fun w=>(IB2.out w).mono (by rintro e w' ⟨rfl,rfl⟩;exact ⟨rfl,rfl⟩))
 have CT:=hid (fun w=>Tryz.strings_Contains_one (bsOf S) 46 w)
 have hCT:Hid (∀w,Calls Tryz.prog 74 #[.string (bsOf S),.string ⟨#[46]⟩] w fun e w'=>e=.returned (.bool (S.contains 46))∧w=w'):=hid (fun w=>(CT.out w).mono (by rintro e w' ⟨rfl,rfl⟩;exact ⟨by rw [bs_list,ib_has],rfl⟩))
 obtain ⟨A1,hA1⟩: ∃M,M=aheadB 101 S:=⟨_,rfl⟩
 obtain ⟨B1,hB1⟩: ∃M,M=fromB 101 S:=⟨_,rfl⟩
 obtain ⟨A3,hA3⟩: ∃M,M=aheadB 112 S:=⟨_,rfl⟩
 obtain ⟨B3,hB3⟩: ∃M,M=fromB 112 S:=⟨_,rfl⟩
 have l1:A1.length+B1.length=S.length:=by rw [hA1,hB1,←List.length_append,ahead_from]
 have l3:A3.length+B3.length=S.length:=by rw [hA3,hB3,←List.length_append,ahead_from]
 rw [←hA1,←hB1] at SA1 N1
 rw [←hA1,←hB1,←hA3,←hB3] at AC
 rw [←hA3,←hB3] at SA2
 have HRQ:=hid (show RR=if al=true then alR S else S from HR.out)
 have HPT:Hid (S.contains 46=true→alR S=S):=hid (fun h=>by unfold alR;rw [if_pos h])
 have L1:=hid (show A1.length+B1.length≤100000 by omega)
 have L3:=hid (show A3.length+B3.length≤100000 by omega)
 obtain ⟨pt,hpt⟩: ∃k,k=S.contains 46:=⟨_,rfl⟩
 rw [←hpt] at hCT HPT AC
 generalize alR S=AS at *
 clear IB1 IB2 hi1 hi2 CT hA1 hB1 hA3 hB3 l1 l3 lS hpt HR
 generalize hQ:bsOf S=Q at *
 cases al
 ·have HF:=hid (show RR=S from HRQ.out)
  clear HRQ HPT AC SA1 SA2 N1
  go_wp2_with fail
  go_ret
  exact ⟨by rw [HF.out,hQ];rfl,by (repeat' first|(with_reducible first|assumption|apply bR|apply bA|apply bN|apply bD|apply bL|apply bS)|refine bT ?_ (by assumption)|go_size)⟩
 ·have HF:=hid (show RR=AS from HRQ.out)
  clear HRQ
  cases pt
  ·have AC2:=hid (AC.out rfl)
   clear HPT AC
   go_wp2_with (go_at_call 74;(with_reducible refine (hCT.out _).mono ?_);rintro en w8 ⟨rfl,rfl⟩)
   have zA0:(w5.alloc (.cells #[.string ⟨#[101]⟩,.string ⟨#[112]⟩] 9)).cell? ⟨w5.heap.size,0,none⟩=some (.string ⟨#[101]⟩):=by rw [World.cell?_alloc_at (hn:=rfl)];rfl
   have zA1:(w5.alloc (.cells #[.string ⟨#[101]⟩,.string ⟨#[112]⟩] 9)).cell? ⟨w5.heap.size,1,none⟩=some (.string ⟨#[112]⟩):=by rw [World.cell?_alloc_at (hn:=rfl)];rfl
   have yA:=below_trans yb5 (below_alloc w5 (.cells #[.string ⟨#[101]⟩,.string ⟨#[112]⟩] 9))
   obtain ⟨WA,hWA⟩: ∃W,W=w5.alloc (.cells #[.string ⟨#[101]⟩,.string ⟨#[112]⟩] 9):=⟨_,rfl⟩
   rw [←hWA] at zA0 zA1 yA ⊢
   obtain ⟨gA,hgA⟩: ∃g,g=w5.heap.size:=⟨_,rfl⟩
   rw [←hgA] at zA0 zA1 ⊢
   clear hWA hgA z5 yb5
   go_loopw [9,10,117] (fun s9 s10 s117 wr=> ∃(j:Nat) (A B:List UInt8),s117=.int .i64 (j:Int)∧s9=.string (bsOf A)∧s10=.string (bsOf B)∧((j=0∧A=S∧B= [])∨(j=1∧A=A1∧B=B1)∨(j=2∧(A,B)=if i2<0 then (A1,B1) else (A3,B3)))∧Below WA.heap.size WA wr) (fun _ _ s117 _=>2-(intOf s117).toNat)
   case atStart=>exact ⟨0,S,[],rfl,by rw [hQ],rfl,.inl ⟨rfl,rfl,rfl⟩,Below.refl _ _⟩
   case round=>
    obtain ⟨j,A,B,rfl,rfl,rfl,hcase,yr⟩:=hrel
    rcases hcase with ⟨rfl,eA,eB⟩|⟨rfl,eA,eB⟩|⟨rfl,hAB⟩
    ·have q0:=(yr.cell (p:=⟨gA,0,none⟩) (World.block_lt_of_cell? _ _ zA0)).trans zA0
     by_cases hi:i1<0
     ·obtain ⟨-,e1,e2⟩:=N1.out (by omega)
      have e1:=hid e1
      have e2:=hid e2
      have eA:=hid eA
      have eB:=hid eB
      go_wp2_with (go_at_call 135;(with_reducible refine (hI1.out _).mono ?_);rintro en w9 ⟨rfl,rfl⟩)
      go_roundw
      case rel=>exact ⟨1,A1,B1,by go_num,by rw [e1.out,hQ],by rw [e2.out],.inr (.inl ⟨rfl,rfl,rfl⟩),by (repeat' first|(with_reducible first|assumption|apply bR|apply bA|apply bN|apply bD|apply bL|apply bS)|refine bT ?_ (by assumption)|go_size)⟩
      case measure=>simp [intOf]
     ·obtain ⟨sa,sb⟩:=SA1.out (by omega)
      go_upto_region 37 with (go_at_call 135;(with_reducible refine (hI1.out _).mono ?_);rintro en w9 ⟨rfl,rfl⟩)
      go_region
      go_wp2_with fail
      go_roundw
      case rel=>exact ⟨1,A1,B1,by go_num,rfl,rfl,.inr (.inl ⟨rfl,rfl,rfl⟩),by (repeat' first|(with_reducible first|assumption|apply bR|apply bA|apply bN|apply bD|apply bL|apply bS)|refine bT ?_ (by assumption)|go_size)⟩
      case measure=>simp [intOf]
    ·have q1:=(yr.cell (p:=⟨gA,1,none⟩) (World.block_lt_of_cell? _ _ zA1)).trans zA1
     have eA:=hid eA
     have eB:=hid eB
     by_cases hi:i2<0
     ·go_wp2_with (go_at_call 135;(with_reducible refine (hI2.out _).mono ?_);rintro en w9 ⟨rfl,rfl⟩)
      go_roundw
      case rel=>exact ⟨2,_,_,by go_num,rfl,rfl,.inr (.inr ⟨rfl,by rw [if_pos (by omega)]⟩),by (repeat' first|(with_reducible first|assumption|apply bR|apply bA|apply bN|apply bD|apply bL|apply bS)|refine bT ?_ (by assumption)|go_size)⟩
      case measure=>simp [intOf]
     ·obtain ⟨sa,sb⟩:=SA2.out (by omega)
      go_upto_region 37 with (go_at_call 135;(with_reducible refine (hI2.out _).mono ?_);rintro en w9 ⟨rfl,rfl⟩)
      go_region
      go_wp2_with fail
      go_roundw
      case rel=>exact ⟨2,A3,B3,by go_num,rfl,rfl,.inr (.inr ⟨rfl,by rw [if_neg (by omega)]⟩),by (repeat' first|(with_reducible first|assumption|apply bR|apply bA|apply bN|apply bD|apply bL|apply bS)|refine bT ?_ (by assumption)|go_size)⟩
      case measure=>simp [intOf]
    ·have HF2:=hid (show RR=A++46::B by rw [HF.out];exact AC2.out A B hAB)
     have lAB:A.length+B.length≤100000:=by
      by_cases hi:i2<0
      ·rw [if_pos hi] at hAB;injection hAB with a b;rw [a,b];exact L1.out
      ·rw [if_neg hi] at hAB;injection hAB with a b;rw [a,b];exact L3.out
     have sA:(bsOf A).size≤100000:=by rw [bs_size];omega
     have sB:(bsOf B).size≤100000:=by rw [bs_size];omega
     have sAp:(bsOf (A++ [46])).size≤100001:=by rw [bs_size,List.length_append];simp;omega
     have a1:bsOf A++(⟨#[46]⟩:ByteArray)=bsOf (A++ [46]):=bs_app A [46]
     have a2:bsOf (A++ [46])++bsOf B=bsOf (A++46::B):=by rw [bs_app,List.append_assoc];rfl
     clear hAB lAB AC2 SA1 SA2 N1 hI1 hI2 zA0 zA1 HF hCT
     go_wp2_with fail
     go_ret
     exact ⟨by rw [HF2.out];first|rfl|(rw [←a2,←a1];rfl),by (repeat' first|(with_reducible first|assumption|apply bR|apply bA|apply bN|apply bD|apply bL|apply bS)|refine bT ?_ (by assumption)|go_size)⟩
  ·have HF2:=hid (show RR=S by rw [HF.out];exact HPT.out rfl)
   clear HF HPT AC SA1 SA2 N1
   go_wp2_with (go_at_call 74;(with_reducible refine (hCT.out _).mono ?_);rintro en w8 ⟨rfl,rfl⟩)
   go_ret
   exact ⟨by rw [HF2.out,hQ];rfl,by (repeat' first|(with_reducible first|assumption|apply bR|apply bA|apply bN|apply bD|apply bL|apply bS)|refine bT ?_ (by assumption)|go_size)⟩
set_option maxHeartbeats 2000000
theorem zDigits_any (L:List UInt8) (w:World) (hL:AllDg L) (hl:L.length≤2000):
 Calls Tryz.prog 142 #[.string (bsOf L)] w (RetZD 3 w ((dvl L:Nat):Int)):=by
 obtain ⟨V,hV⟩: ∃V,V=dvl L:=⟨_,rfl⟩
 rw [←hV]
 have hsz:=bs_size L
 go_enter Tryz.func142,Tryz.ntmps142
 go_upto_region 2 with fail
 have n0: ∀w,Nz 3 w none 0 (zl 0):=fun w=>Nz.nil' none 0 (by decide)
 have zz:=zv_made2 (tz:=31) (ti:=3) (w:=w) (x:=0) (y:=0) (n0 _) (n0 _)
 refine wp_worldZ (fun WW=>Below w.heap.size w WW∧ZV 31 3 WW w.heap.size 0∧ZV 31 3 WW (w.heap.size+1) 0) ⟨zz.1,zz.2.1,by first|exact zz.2.2|(have h:=zz.2.2;simpa using h)⟩ ?_
 intro W1 ⟨y1,z2,z3⟩
 obtain ⟨g2,hg2⟩: ∃g,g=w.heap.size:=⟨_,rfl⟩
 obtain ⟨g3,hg3⟩: ∃g,g=w.heap.size+1:=⟨_,rfl⟩
 have b2:w.heap.size≤g2:=by omega
 have b3:w.heap.size≤g3:=by omega
 have gne:g2≠g3:=by omega
 rw [←hg3] at z3 ⊢
 rw [←hg2] at z2 ⊢
 clear hg2 hg3 zz n0
 have Z2:=hid z2
 have Z3:=hid z3
 clear z2 z3
 have HVL:=hid hV
 obtain ⟨E,hE⟩: ∃E:Nat,E=2000:=⟨_,rfl⟩
 have HL10:=hid (fun q (h:q<10^E)=>Nat.le_trans (zl_len_le (x:=((q:Nat):Int)) (y:=tenZ E) (by unfold tenZ;rw [Int.natAbs_natCast,Int.natAbs_natCast];omega)) (zl_len_ten E))
 clear hV
 go_wp2_with fail
 go_loopw [4,8] (fun s4 s8 wr=> ∃(j q:Nat),s8=.int .i64 (j:Int)∧j≤L.length∧dvA q (L.drop j)=V∧q<10^(E-(L.length-j))∧ZV 31 3 wr g2 0∧ZV 31 3 wr g3 (q:Int)∧Below w.heap.size w wr) (fun _ s8 _=>L.length-(intOf s8).toNat)
 case atStart=>exact ⟨0,0,rfl,by omega,HVL.out.symm,Nat.pow_pos (by omega),Z2.out,Z3.out,y1⟩
 case round=>
  obtain ⟨j,q,rfl,hj,hq,hqb,z2,z3,yr⟩:=hrel
  clear Z2 Z3 y1
  cases hd:L.drop j with
  |nil=>
   have g1: ¬(j:Int)<(L.length:Int):=by
    have:=congrArg List.length hd
    rw [List.length_drop,List.length_nil] at this;omega
   rw [hd] at hq
   have e:q=V:=hq
   subst e
   obtain ⟨a3,c3,zl3,n3⟩:=z3
   obtain ⟨a2,c2,zl2,n2⟩:=z2
   have zst:=zv_store1 (by decide) yr b2 zl2 n3
   obtain ⟨j0,j1,-⟩:=zl3
   obtain ⟨k0,k1,kf0,kf1,kk⟩:=id zl2
   have HS:=hid zst
   clear hd hq hqb zst
   go_wp2_with fail
   have zst:=HS.out
   obtain ⟨a9,c9,zl9,n9⟩:=id zst.2
   obtain ⟨m0,m1,-⟩:=id zl9
   refine bodyPost_ret (by simp [results,Tryz.results142,go_sem,m0,m1];try rfl) rfl ?_
   exact ⟨_,rfl,⟨a9,c9,rfl,n9⟩,zst.1⟩
  |cons b r=>
   obtain ⟨q1,q2,-⟩:=drop_cons hd
   have hix:=run_index (P:=Tryz.prog) Tryz.underlying9 L j b r hd
   have hbd:=dg_bd (hL b (List.mem_of_mem_drop (by rw [hd];exact List.mem_cons_self ..)))
   rw [hd,dvA_cons] at hq
   obtain ⟨d,hdd⟩: ∃d:Nat,d=b.toNat-48:=⟨_,rfl⟩
   rw [←hdd] at hq
   obtain ⟨x,hx⟩: ∃x:Int,x=(b.toNat:Int):=⟨_,rfl⟩
   rw [←hx] at hix
   have wB:IntKind.u8.wrap (x-48)=(d:Int):=by rw [IntKind.wrap_u8];omega
   have wC:IntKind.i64.wrap (d:Int)=(d:Int):=IntWalk.i64_in _ (by omega)
   have wI:IntKind.i64.wrap ((j:Int)+1)=(j:Int)+1:=IntWalk.i64_in _ (by omega)
   have hqb2:q*10+d<10^(E-(L.length-(j+1))):=by
    have h1:(q+1)*10≤10^(E-(L.length-j))*10:=Nat.mul_le_mul_right _ hqb
    rw [←Nat.pow_succ,show (E-(L.length-j)).succ=E-(L.length-(j+1)) by omega] at h1
    omega
   have hpe:10^(E-(L.length-(j+1)))≤10^E:=Nat.pow_le_pow_right (by omega) (by omega)
   have lq:=HL10.out q (by omega)
   have lq2:(zl ((q:Int)*10)).length≤E+1:=by
    have h:=HL10.out (q*10) (by omega)
    rw [Int.natCast_mul] at h
    exact h
   have ld:(zl (d:Int)).length≤2001:=Nat.le_trans (HL10.out d (by omega)) (by omega)
   have HQ:=hid (show dvA (q*10+d) (L.drop (j+1))=V by rw [q2];exact hq)
   have HQB:=hid hqb2
   have l10:(zl 10).length≤900000:=by decide
   have hd10:d<10:=by omega
   clear hd hq hqb hqb2 hpe hbd hx hdd q2
   go_upto_region 5 with fail
   obtain ⟨W4,hW4⟩: ∃W,W=wr:=⟨_,rfl⟩
   subst hW4
   refine wp_region_grow 10 [11,12,13,14,15,16,17,18,19,20] [Fact.z 3 ((q:Int)),Fact.z 3 (10),Fact.z 3 (((q:Int))*(10)),Fact.is (.string (bsOf L)),Fact.is (.int .i64 (j:Int)),Fact.is (.int .u8 x),Fact.is (.int .u8 (d:Int)),Fact.is (.int .i64 (d:Int)),Fact.z 3 ((d:Int)),Fact.z 3 ((((q:Int))*(10))+((d:Int)))] (by kernel_rfl) (by kernel_rfl) ⟨?o0,?o1,?o2,?o3,?o4,?o5,?o6,?o7,?o8,?o9,trivial⟩ ?after
   case o0=>(refine oQ rfl ?_;intro ρ w1 R hcon hfn hρ hb hp hR;have e3:ρ (.tmp 3)=.pointer (some ⟨g3,0,none⟩):=hρ.tmp 3 rfl;obtain ⟨ya9,yc9,yj9,yn9⟩:=ZV.below z3 hb;obtain ⟨j90,j91,-⟩:=yj9;clear hρ hp;unfold OpRun;go_simp;exact hR _ _ (Below.refl _ _) ⟨ya9,yc9,rfl,yn9⟩)
   case o1=>(refine oQ rfl ?_;intro ρ w1 R hcon hfn hρ hb hp hR;clear hρ hp;unfold OpRun;go_simp;(refine (zND _ (by omega) (by omega) _).mono ?_;rintro e wn ⟨v9,rfl,hz9,hbn⟩;exact ⟨_,rfl,hR _ _ hbn hz9⟩))
   case o2=>(refine oQ rfl ?_;intro ρ w1 R hcon hfn hρ hb hp hR;have f11:=hp 0 11 rfl rfl;have f12:=hp 1 12 rfl rfl;clear hρ hp;unfold OpRun;go_simp;(refine (zmulD _ _ _ _ _ f11 f12 (by first|assumption|omega) (by first|assumption|omega)).mono ?_;rintro e wn ⟨v9,rfl,hz9,hbn⟩;exact ⟨_,rfl,hR _ _ hbn hz9⟩))
   case o3=>(refine oQ rfl ?_;intro ρ w1 R hcon hfn hρ hb hp hR;have e0:ρ (.tmp 0)=.string (bsOf L):=hρ.tmp 0 rfl;clear hρ hp;unfold OpRun;go_simp;exact hR _ _ (Below.refl _ _) rfl)
   case o4=>(refine oQ rfl ?_;intro ρ w1 R hcon hfn hρ hb hp hR;have e4:ρ (.tmp 4)=.int .i64 (j:Int):=hρ.tmp 4 rfl;clear hρ hp;unfold OpRun;go_simp;exact hR _ _ (Below.refl _ _) rfl)
   case o5=>(refine oQ rfl ?_;intro ρ w1 R hcon hfn hρ hb hp hR;have e14:ρ (.tmp 14)=_:=hp 3 14 rfl rfl;have e15:ρ (.tmp 15)=_:=hp 4 15 rfl rfl;clear hρ hp;unfold OpRun;go_simp;exact hR _ _ (Below.refl _ _) rfl)
   case o6=>(refine oQ rfl ?_;intro ρ w1 R hcon hfn hρ hb hp hR;have e16:ρ (.tmp 16)=_:=hp 5 16 rfl rfl;clear hρ hp;unfold OpRun;go_simp;exact hR _ _ (Below.refl _ _) rfl)
   case o7=>(refine oQ rfl ?_;intro ρ w1 R hcon hfn hρ hb hp hR;have e17:ρ (.tmp 17)=_:=hp 6 17 rfl rfl;clear hρ hp;unfold OpRun;go_simp;exact hR _ _ (Below.refl _ _) rfl)
   case o8=>(refine oQ rfl ?_;intro ρ w1 R hcon hfn hρ hb hp hR;have e18:ρ (.tmp 18)=_:=hp 7 18 rfl rfl;clear hρ hp;unfold OpRun;go_simp;(refine (zND _ (by omega) (by omega) _).mono ?_;rintro e wn ⟨v9,rfl,hz9,hbn⟩;exact ⟨_,rfl,hR _ _ hbn hz9⟩))
   case o9=>(refine oQ rfl ?_;intro ρ w1 R hcon hfn hρ hb hp hR;have f13:=hp 2 13 rfl rfl;have f19:=hp 8 19 rfl rfl;clear hρ hp;unfold OpRun;go_simp;(refine (zaddD _ _ _ _ _ f13 f19 (by first|assumption|omega) (by first|assumption|omega)).mono ?_;rintro e wn ⟨v9,rfl,hz9,hbn⟩;exact ⟨_,rfl,hR _ _ hbn hz9⟩))
   case after=>
    intro u wn hb hf
    have f20:=hf 9 20 (by omega) rfl
    clear hf
    simp only [putAll,Act.put,List.setIfInBounds_toArray,List.set_cons_zero,List.set_cons_succ,List.drop_succ_cons,List.drop_zero,List.drop_nil]
    obtain ⟨a6,c6,e20,n6⟩:=f20
    rw [e20]
    have yb:=below_trans yr hb
    have z2a:=z2.below hb
    obtain ⟨a3,c3,zl3,n3⟩:=z3.below hb
    have zst:=zv_store1 (by decide) yb b3 zl3 n6
    have z2b:=z2a.set2 (zl3.2.2.2.2) (by decide) gne (.bool (zneg ((q:Int)*10+(d:Int)))) (.slice a6 (zl ((q:Int)*10+(d:Int))).length c6)
    obtain ⟨k0,k1,kf0,kf1,-⟩:=id zl3
    have HZ:=hid (And.intro zst z2b)
    clear z2 z3 z2a hb yr n3 zst z2b e20
    go_wp2_with fail
    go_roundw
    case rel=>exact ⟨j+1,q*10+d,by go_num,by omega,HQ.out,HQB.out,HZ.out.2,HZ.out.1.2,HZ.out.1.1⟩
    case measure=>simp [intOf];omega
end Go.Proofs.YtfphmlmgjhebjaaGreatDoor
namespace Go.Ulp
open Go.RowKit
end Go.Ulp
namespace Go.Proofs.YtfphmlmgjhebjaaGreatDoor
open Go.RowKit Go.Ulp
set_option maxHeartbeats 2000000
set_option maxRecDepth 100000
set_option maxHeartbeats 16000000
theorem bodyW_g (x:Int) (h0:0≤x) (h1:x<18446744073709551616) (hv:hasVal x=true) (hn:negB x=false) (wd pr:Int) (mi pl bl ze al:Bool) (hp: -1≤pr∧pr≤100) (pd:Int) (hd:(fv x).1≠0→IsDec (dA (fv x)) (dB (fv x)) pd) (hpb: -1200≤pd∧pd≤1200) (S0:List UInt8) (hS0:S0=gnT al x (max (wvP pr) 1-1) pd) (w:World):
 Calls Tryz.prog 77 #[.agg #[.int .i64 103,.bool mi,.bool pl,.bool bl,.bool ze,.bool al,.int .i64 wd,.int .i64 pr],.int .u64 x] w fun e w'=>e=.returned (.string (bsOf (if al=true then alR S0 else S0)))∧Below w.heap.size w w':=by
 obtain ⟨k,hk⟩: ∃k,k=max (wvP pr) 1-1:=⟨_,rfl⟩
 rw [←hk] at hS0
 have hki:(k:Int)+1=if pr<0 then 6 else if pr=0 then 1 else pr:=by
  have hq:wvP pr=if pr<0 then 6 else pr.toNat:=rfl
  rw [hk,hq];split
  ·rfl
  ·split<;>omega
 have hk100:k≤100:=by split at hki<;>(try split at hki)<;>omega
 clear hk
 obtain ⟨e,he⟩: ∃e,e=scP x k pd 0:=⟨_,rfl⟩
 have eb:=scP_bd x k pd 0 hpb
 rw [←he] at eb
 obtain ⟨c1,c2⟩:=scT_split x k pd 0 hd hn
 rw [←he] at c2
 have hG:gnS x k pd=if -4≤e∧e<(k:Int)+1 then fxT x ((k:Int)-e).toNat 0 else scT x k pd 0:=by rw [he];rfl
 have lG:(gnS x k pd).length≤100000:=by
  rw [hG];split
  ·have:=fxT_len x 0 ((k:Int)-e).toNat h0 h1 (by omega);omega
  ·have:=scT_len x 0 pd k (by omega) hd hpb;omega
 have BR:=hid (fun W=>bare_any (gnS x k pd) W (by omega))
 obtain ⟨RR,hRR⟩: ∃r,r=if al=true then alR S0 else S0:=⟨_,rfl⟩
 rw [←hRR]
 have HR:Hid (RR=if al=true then alR (gnS x k pd) else wzT (gnS x k pd)):=hid (by
  rw [hRR,hS0]
  unfold gnT
  cases al<;>rfl)
 clear hRR hS0
 have SX0:=fun W=>sciText_any x 0 pd k (k+1) rfl h0 h1 hv (by omega) (by omega) (by omega) hd hpb W
 have lS1:=scT_len x 0 pd k (by omega) hd hpb
 have hIBs:=(ib_spec 101 (scT x k pd 0)).1 (scT_has x k pd 0)
 generalize gnS x k pd=G at *
 have FXT:Hid (∀q:Nat,-4≤e∧e≤(k:Int)→(q:Int)=(k:Int)-e→ ∀W,Calls Tryz.prog 136 #[.int .u64 x,.int .i64 (q:Int),.int .i64 0] W fun en w'=>en=.returned (.tuple #[.string (bsOf G),.bool (fxC x q)])∧Below W.heap.size W w'):=hid (fun q hh hq W=>by
  have:=fixedText_any x 0 q h0 h1 (by omega) (by omega) (by omega) W
  rw [if_pos ⟨hh.1,by omega⟩,show ((k:Int)-e).toNat=q by omega] at hG
  rw [←hG] at this
  exact this)
 have SG1:Hid (¬(-4≤e∧e≤(k:Int))→scT x k pd 0=G):=hid (fun hh=>by rw [hG,if_neg (fun h=>hh ⟨h.1,by omega⟩)])
 generalize scT x k pd 0=S1 at *
 generalize scC x k pd=C1 at *
 have IB:=hid (fun w=>Tryz.strings_IndexByte (bsOf S1) 101 w)
 rw [bs_list] at IB
 obtain ⟨A,hA⟩: ∃A,A=aheadB 101 S1:=⟨_,rfl⟩
 rw [←hA] at hIBs c1
 obtain ⟨ib,hib⟩: ∃z:Int,z=(A.length:Int):=⟨_,rfl⟩
 have hIB:Hid (∀w,Calls Tryz.prog 66 #[.string (bsOf S1),.int .u8 101] w fun e w'=>e=.returned (.int .i64 ib)∧w=w'):=hid (fun w=>(IB.out w).mono (by rintro e w' ⟨rfl,rfl⟩;exact ⟨by rw [hib,←hIBs];rfl,rfl⟩))
 have hAS:=ahead_from 101 S1
 rw [←hA,c2] at hAS
 have lA:A.length+1≤S1.length:=by rw [←hAS,List.length_append,List.length_cons];omega
 have hsf:=slice_from (P:=Tryz.prog) Tryz.underlying9 S1 (ib+1) (by omega) (by omega)
 have hdr:S1.drop (ib+1).toNat=(if e<0 then 45 else 43)::pwD e:=by
  rw [show (ib+1).toNat=A.length+1 by omega,←hAS,show A.length+1=(A++ [101]).length by simp,show A++101::(if e<0 then 45 else 43)::pwD e=(A++ [101])++(if e<0 then 45 else 43)::pwD e by simp,List.drop_left]
 rw [hdr] at hsf
 have wI:IntKind.i64.wrap (ib+1)=ib+1:=IntWalk.i64_in _ (by omega)
 have lP:=pwD_len e (by omega)
 have hsf2:=slice_from (P:=Tryz.prog) Tryz.underlying9 ((if e<0 then 45 else 43)::pwD e) 1 (by omega) (by simp;omega)
 rw [show (1:Int).toNat=1 from rfl,List.drop_succ_cons,List.drop_zero] at hsf2
 have ZDg:=hid (fun w=>zDigits_any (pwD e) w (pwD_dg e) (by omega))
 rw [pwD_val] at ZDg
 have ZI:=hid (fun (v:Value) w (hz:ZD 3 w (((e.natAbs:Nat)):Int) v)=>zIntD v (((e.natAbs:Nat)):Int) w hz (by omega))
 have hix:=run_index (P:=Tryz.prog) Tryz.underlying9 ((if e<0 then 45 else 43)::pwD e) 0 (if e<0 then 45 else 43) (pwD e) rfl
 obtain ⟨ea,hea⟩: ∃z:Int,z=(e.natAbs:Int):=⟨_,rfl⟩
 rw [←hea] at ZDg ZI
 have HG:=hid (show G.length≤100000 from lG)
 obtain ⟨dI,hdI⟩: ∃d:Int,d=((k+1:Nat):Int):=⟨_,rfl⟩
 rw [←hdI] at SX0
 have SX:=hid SX0
 have e8:((((0:Nat):Int)):Int)=0:=rfl
 rw [e8] at hix
 obtain ⟨kI,hkI⟩: ∃z:Int,z=(k:Int):=⟨_,rfl⟩
 rw [←hkI] at FXT SG1 hki
 have hdk:dI=kI+1:=by omega
 have hk200:0≤kI∧kI≤100:=by omega
 clear SX0 IB hA hib hIBs c1 c2 hAS lA hdr lP lS1 hG he h0 h1 hv hn hd hpb e8 hdI hkI hk100
 have zB:V8 (w.alloc (.cells #[.int .i64 103,.bool mi,.bool pl,.bool bl,.bool ze,.bool al,.int .i64 wd,.int .i64 pr] 50)) w.heap.size #[.int .i64 103,.bool mi,.bool pl,.bool bl,.bool ze,.bool al,.int .i64 wd,.int .i64 pr]:=V8.made rfl
 obtain ⟨⟨y0,-,-,-,-,-,-,y7⟩,-⟩:=zB.cells
 generalize pwD e=D at *
 obtain ⟨sb,hsb⟩: ∃b:UInt8,b=if e<0 then 45 else 43:=⟨_,rfl⟩
 rw [←hsb] at hsf hsf2 hix
 obtain ⟨sI,hsI⟩: ∃z:Int,z=(sb.toNat:Int):=⟨_,rfl⟩
 rw [←hsI] at hix
 have HSI:Hid ((e<0→sI=45)∧(¬e<0→sI=43)):=hid (by rw [hsI,hsb];exact ⟨fun h=>by rw [if_pos h];rfl,fun h=>by rw [if_neg h];rfl⟩)
 obtain ⟨T2,hT2⟩: ∃Q,Q=bsOf (sb::D):=⟨_,rfl⟩
 rw [←hT2] at hsf hsf2 hix
 obtain ⟨dP,hdP⟩: ∃z:Int,z=if pr= -1 then 6 else pr:=⟨_,rfl⟩
 have hdI2:dI=if dP=0 then 1 else dP:=by
  rw [hdP]
  by_cases hp1:pr= -1
  ·rw [if_pos (by omega)] at hki
   rw [if_pos hp1,if_neg (by decide)];omega
  ·rw [if_neg (by omega)] at hki
   rw [if_neg hp1]
   by_cases h0':pr=0
   ·rw [if_pos h0'] at hki ⊢;omega
   ·rw [if_neg h0'] at hki ⊢;omega
 have HDP:=hid hdP
 have HDI:=hid hdI2
 have wk:IntKind.i64.wrap (dI-1)=kI:=by rw [IntWalk.i64_in _ (by omega)];omega
 have HEA:=hid hea
 have BT:=hid (fun W=>between_any e (-4) kI W)
 obtain ⟨bB,hbB⟩: ∃b,b=decide (-4≤e∧e≤kI):=⟨_,rfl⟩
 rw [←hbB] at BT
 have HBB:=hid hbB
 have HK:=hid hk200
 have HEB:=hid eb
 clear hdP hdI2 hki hdk hk200 hT2 hsI hsb hea hbB eb
 go_enter Tryz.func77,Tryz.ntmps77
 go_upto_if 17 with fail
 go_cut [5] (fun s5 wx=>s5=.int .i64 dP∧wx=w.alloc (.cells #[.int .i64 103,.bool mi,.bool pl,.bool bl,.bool ze,.bool al,.int .i64 wd,.int .i64 pr] 50))
 case first=>
  by_cases hm:pr= -1
  ·have h9:=HDP.out
   rw [if_pos hm] at h9
   subst h9
   subst hm
   clear HDP HDI
   go_wp2_with fail
   go_meet
   exact ⟨rfl,rfl⟩
  ·have h9:=HDP.out
   rw [if_neg hm] at h9
   subst h9
   clear HDP HDI
   go_wp2_with fail
   go_meet
   exact ⟨rfl,rfl⟩
 case rest=>
 obtain ⟨rfl,rfl⟩:=hcut
 go_upto_if 21 with fail
 go_cut [5] (fun s5 wx=>s5=.int .i64 dI∧wx=w.alloc (.cells #[.int .i64 103,.bool mi,.bool pl,.bool bl,.bool ze,.bool al,.int .i64 wd,.int .i64 pr] 50))
 case first=>
  by_cases hm:dP=0
  ·have h9:=HDI.out
   rw [if_pos hm] at h9
   subst h9
   have q:(dP==0)=true:=beq_iff_eq.2 hm
   clear HDP HDI hm
   go_wp2_with fail
   go_meet
   exact ⟨rfl,rfl⟩
  ·have h9:=HDI.out
   rw [if_neg hm] at h9
   have q:(dP==0)=false:=beq_eq_false_iff_ne.2 hm
   have H9:=hid h9
   clear HDP HDI hm h9
   go_wp2_with fail
   go_meet
   exact ⟨by rw [H9.out],rfl⟩
 case rest=>
 obtain ⟨rfl,rfl⟩:=hcut
 clear HDP HDI
 go_upto_region 9 with (go_at_call 137;(with_reducible refine (SX.out _).mono ?_);rintro en w3 ⟨rfl,hb3⟩)
 have yb3:Below w.heap.size w w3:=by (repeat' first|(with_reducible first|assumption|apply bR|apply bA|apply bN|apply bD|apply bL|apply bS)|refine bT ?_ (by assumption)|go_size)
 have zB3:=zB.below hb3
 clear zB hb3 SX y0 y7
 go_upto_if 39 with (first
  |(go_at_call 66;(with_reducible refine (hIB.out _).mono ?_);rintro en w4 ⟨rfl,rfl⟩)
  |(go_at_call 142;(with_reducible refine (ZDg.out _).mono ?_);rintro en w4 ⟨v4,rfl,hz4,hb4⟩)
  |(go_at_call 141;(with_reducible refine (ZI.out _ _ hz4).mono ?_);rintro en w5 ⟨rfl,hb5⟩))
 have yb5:Below w.heap.size w w5:=below_trans (below_trans yb3 hb4) hb5
 have zB5:=(zB3.below hb4).below hb5
 clear zB3 hb4 hb5 hz4 yb3 hIB ZDg ZI
 go_cut [8] (fun s8 wx=>s8=.int .i64 e∧wx=w5)
 case first=>
  by_cases hneg:e<0
  ·have q:=HSI.out.1 (by omega)
   subst q
   have hh:=HEA.out
   have hh2:=HEB.out
   have w9:IntKind.i64.wrap (-ea)=e:=by rw [IntWalk.i64_in _ (by omega)];omega
   clear hneg HEA HSI hh hh2
   go_wp2_with fail
   go_meet
   exact ⟨rfl,rfl⟩
  ·have q:=HSI.out.2 (by omega)
   subst q
   have hh:=HEA.out
   have hee:=hid (show ea=e by omega)
   clear hneg HEA HSI hh
   go_wp2_with fail
   go_meet
   exact ⟨by rw [hee.out],rfl⟩
 case rest=>
 obtain ⟨rfl,rfl⟩:=hcut
 clear HEA HSI hsf hsf2 hix
 obtain ⟨W5,hW5⟩: ∃W,W=wc:=⟨_,rfl⟩
 subst hW5
 go_upto_if 45 with (go_at_call 25;(with_reducible refine (BT.out _).mono ?_);rintro en w6 ⟨rfl,rfl⟩)
 go_cut [6] (fun s6 wx=>s6=.string (bsOf G)∧Below W5.heap.size W5 wx)
 case first=>
  cases bB
  ·have SG:=(SG1.out (of_decide_eq_false HBB.out.symm)).symm
   subst SG
   clear SG1 FXT HBB BT
   go_wp2_with fail
   go_meet
   exact ⟨rfl,Below.refl _ _⟩
  ·have hc1: -4≤e∧e≤kI:=of_decide_eq_true HBB.out.symm
   have hkk:=HK.out
   have hee:=HEB.out
   obtain ⟨q,hq⟩: ∃q:Nat,(q:Int)=kI-e:=⟨(kI-e).toNat,by omega⟩
   have FX:=hid (FXT.out q hc1 hq)
   have w8:IntKind.i64.wrap (kI-e)=(q:Int):=by rw [IntWalk.i64_in _ (by omega)];omega
   clear FXT SG1 hc1 hq hkk hee HBB BT
   go_wp2_with (go_at_call 136;(with_reducible refine (FX.out _).mono ?_);rintro en w6 ⟨rfl,hb6⟩)
   go_meet
   exact ⟨rfl,hb6⟩
 case rest=>
 obtain ⟨rfl,hbx⟩:=hcut
 clear FXT SG1 BT HBB HK HEB
 obtain ⟨w6,hw6⟩: ∃W,W=wc:=⟨_,rfl⟩
 subst hw6
 have yb6:Below w.heap.size w w6:=below_trans yb5 hbx
 have zB6:=zB5.below hbx
 clear zB5 hbx yb5
 rename_i K hK
 refine hK _ _ ?_
 obtain ⟨⟨-,-,-,-,-,z5,-,-⟩,-⟩:=zB6.cells
 clear zB6
 cases al
 ·have HF:=hid (show RR=wzT G from HR.out)
  clear HR
  go_wp2_with (go_at_call 143;(with_reducible refine (BR.out _).mono ?_);rintro en w7 ⟨rfl,hb7⟩;have z57:=(hb7.cell (p:=⟨w.heap.size,5,none⟩) (World.block_lt_of_cell? _ _ z5)).trans z5)
  go_ret
  exact ⟨by rw [HF.out];rfl,by (repeat' first|(with_reducible first|assumption|apply bR|apply bA|apply bN|apply bD|apply bL|apply bS)|refine bT ?_ (by assumption)|go_size)⟩
 ·have HRX:=hid (show RR=alR G from HR.out)
  clear HR BR
  go_upto_region 30 with fail
  have HR:=HRX
  clear HRX HG
  have lS:=lG
  obtain ⟨S,hSG⟩: ∃S,S=G:=⟨_,rfl⟩
  rw [←hSG] at HR lS ⊢
  clear lG hSG
  obtain ⟨w5,hw5⟩: ∃W,W=w6:=⟨_,rfl⟩
  rw [←hw5] at z5 yb6 ⊢
  have yb5:=yb6
  clear yb6 hw5
  have IB1:=hid (fun w=>Tryz.strings_Index_one (bsOf S) 101 w)
  have IB2:=hid (fun w=>Tryz.strings_Index_one (bsOf S) 112 w)
  rw [bs_list] at IB1 IB2
  have SA1:=hid (slice_at (P:=Tryz.prog) Tryz.underlying9 S 101)
  have SA2:=hid (slice_at (P:=Tryz.prog) Tryz.underlying9 S 112)
  have N1:=hid ((ix_cut 101 S).1)
  have AC:=hid (alR_cut S)
  obtain ⟨i1,hi1⟩: ∃z,z=Lib.indexByte S 101:=⟨_,rfl⟩
  obtain ⟨i2,hi2⟩: ∃z,z=Lib.indexByte S 112:=⟨_,rfl⟩
  rw [←hi1] at IB1 SA1 N1
  rw [←hi2] at IB2 SA2 AC
  have hI1:Hid (∀w,Calls Tryz.prog 135 #[.string (bsOf S),.string ⟨#[101]⟩] w fun e w'=>e=.returned (.int .i64 i1)∧w=w'):=hid (fun w=>(IB1.out w).mono (by rintro e w' ⟨rfl,rfl⟩;exact ⟨rfl,rfl⟩))
  have hI2:Hid (∀w,Calls Tryz.prog 135 #[.string (bsOf S),.string ⟨#[112]⟩] w fun e w'=>e=.returned (.int .i64 i2)∧w=w'):=hid (fun w=>(IB2.out w).mono (by rintro e w' ⟨rfl,rfl⟩;exact ⟨rfl,rfl⟩))
  have CT:=hid (fun w=>Tryz.strings_Contains_one (bsOf S) 46 w)
  have hCT:Hid (∀w,Calls Tryz.prog 74 #[.string (bsOf S),.string ⟨#[46]⟩] w fun e w'=>e=.returned (.bool (S.contains 46))∧w=w'):=hid (fun w=>(CT.out w).mono (by rintro e w' ⟨rfl,rfl⟩;exact ⟨by rw [bs_list,ib_has],rfl⟩))
  obtain ⟨A1,hA1⟩: ∃M,M=aheadB 101 S:=⟨_,rfl⟩
  obtain ⟨B1,hB1⟩: ∃M,M=fromB 101 S:=⟨_,rfl⟩
  obtain ⟨A3,hA3⟩: ∃M,M=aheadB 112 S:=⟨_,rfl⟩
  obtain ⟨B3,hB3⟩: ∃M,M=fromB 112 S:=⟨_,rfl⟩
  have l1:A1.length+B1.length=S.length:=by rw [hA1,hB1,←List.length_append,ahead_from]
  have l3:A3.length+B3.length=S.length:=by rw [hA3,hB3,←List.length_append,ahead_from]
  rw [←hA1,←hB1] at SA1 N1
  rw [←hA1,←hB1,←hA3,←hB3] at AC
  rw [←hA3,←hB3] at SA2
  have HRQ:=hid (show RR=alR S from HR.out)
  have HPT:Hid (S.contains 46=true→alR S=S):=hid (fun h=>by unfold alR;rw [if_pos h])
  have L1:=hid (show A1.length+B1.length≤100000 by omega)
  have L3:=hid (show A3.length+B3.length≤100000 by omega)
  obtain ⟨pt,hpt⟩: ∃k,k=S.contains 46:=⟨_,rfl⟩
  rw [←hpt] at hCT HPT AC
  generalize alR S=AS at *
  clear IB1 IB2 hi1 hi2 CT hA1 hB1 hA3 hB3 l1 l3 lS hpt HR
  generalize hQ:bsOf S=Q at *
  have HF:=hid (show RR=AS from HRQ.out)
  clear HRQ
  cases pt
  ·have AC2:=hid (AC.out rfl)
   clear HPT AC
   go_wp2_with (go_at_call 74;(with_reducible refine (hCT.out _).mono ?_);rintro en w8 ⟨rfl,rfl⟩)
   have zA0:(w5.alloc (.cells #[.string ⟨#[101]⟩,.string ⟨#[112]⟩] 9)).cell? ⟨w5.heap.size,0,none⟩=some (.string ⟨#[101]⟩):=by rw [World.cell?_alloc_at (hn:=rfl)];rfl
   have zA1:(w5.alloc (.cells #[.string ⟨#[101]⟩,.string ⟨#[112]⟩] 9)).cell? ⟨w5.heap.size,1,none⟩=some (.string ⟨#[112]⟩):=by rw [World.cell?_alloc_at (hn:=rfl)];rfl
   have yA:=below_trans yb5 (below_alloc w5 (.cells #[.string ⟨#[101]⟩,.string ⟨#[112]⟩] 9))
   obtain ⟨WA,hWA⟩: ∃W,W=w5.alloc (.cells #[.string ⟨#[101]⟩,.string ⟨#[112]⟩] 9):=⟨_,rfl⟩
   rw [←hWA] at zA0 zA1 yA ⊢
   obtain ⟨gA,hgA⟩: ∃g,g=w5.heap.size:=⟨_,rfl⟩
   rw [←hgA] at zA0 zA1 ⊢
   clear hWA hgA z5 yb5
   go_loopw [9,10,117] (fun s9 s10 s117 wr=> ∃(j:Nat) (A B:List UInt8),s117=.int .i64 (j:Int)∧s9=.string (bsOf A)∧s10=.string (bsOf B)∧((j=0∧A=S∧B= [])∨(j=1∧A=A1∧B=B1)∨(j=2∧(A,B)=if i2<0 then (A1,B1) else (A3,B3)))∧Below WA.heap.size WA wr) (fun _ _ s117 _=>2-(intOf s117).toNat)
   case atStart=>exact ⟨0,S,[],rfl,by rw [hQ],rfl,.inl ⟨rfl,rfl,rfl⟩,Below.refl _ _⟩
   case round=>
    obtain ⟨j,A,B,rfl,rfl,rfl,hcase,yr⟩:=hrel
    rcases hcase with ⟨rfl,eA,eB⟩|⟨rfl,eA,eB⟩|⟨rfl,hAB⟩
    ·have q0:=(yr.cell (p:=⟨gA,0,none⟩) (World.block_lt_of_cell? _ _ zA0)).trans zA0
     by_cases hi:i1<0
     ·obtain ⟨-,e1,e2⟩:=N1.out (by omega)
      have e1:=hid e1
      have e2:=hid e2
      have eA:=hid eA
      have eB:=hid eB
      go_wp2_with (go_at_call 135;(with_reducible refine (hI1.out _).mono ?_);rintro en w9 ⟨rfl,rfl⟩)
      go_roundw
      case rel=>exact ⟨1,A1,B1,by go_num,by rw [e1.out,hQ],by rw [e2.out],.inr (.inl ⟨rfl,rfl,rfl⟩),by (repeat' first|(with_reducible first|assumption|apply bR|apply bA|apply bN|apply bD|apply bL|apply bS)|refine bT ?_ (by assumption)|go_size)⟩
      case measure=>simp [intOf]
     ·obtain ⟨sa,sb⟩:=SA1.out (by omega)
      go_upto_region 37 with (go_at_call 135;(with_reducible refine (hI1.out _).mono ?_);rintro en w9 ⟨rfl,rfl⟩)
      go_region
      go_wp2_with fail
      go_roundw
      case rel=>exact ⟨1,A1,B1,by go_num,rfl,rfl,.inr (.inl ⟨rfl,rfl,rfl⟩),by (repeat' first|(with_reducible first|assumption|apply bR|apply bA|apply bN|apply bD|apply bL|apply bS)|refine bT ?_ (by assumption)|go_size)⟩
      case measure=>simp [intOf]
    ·have q1:=(yr.cell (p:=⟨gA,1,none⟩) (World.block_lt_of_cell? _ _ zA1)).trans zA1
     have eA:=hid eA
     have eB:=hid eB
     by_cases hi:i2<0
     ·go_wp2_with (go_at_call 135;(with_reducible refine (hI2.out _).mono ?_);rintro en w9 ⟨rfl,rfl⟩)
      go_roundw
      case rel=>exact ⟨2,_,_,by go_num,rfl,rfl,.inr (.inr ⟨rfl,by rw [if_pos (by omega)]⟩),by (repeat' first|(with_reducible first|assumption|apply bR|apply bA|apply bN|apply bD|apply bL|apply bS)|refine bT ?_ (by assumption)|go_size)⟩
      case measure=>simp [intOf]
     ·obtain ⟨sa,sb⟩:=SA2.out (by omega)
      go_upto_region 37 with (go_at_call 135;(with_reducible refine (hI2.out _).mono ?_);rintro en w9 ⟨rfl,rfl⟩)
      go_region
      go_wp2_with fail
      go_roundw
      case rel=>exact ⟨2,A3,B3,by go_num,rfl,rfl,.inr (.inr ⟨rfl,by rw [if_neg (by omega)]⟩),by (repeat' first|(with_reducible first|assumption|apply bR|apply bA|apply bN|apply bD|apply bL|apply bS)|refine bT ?_ (by assumption)|go_size)⟩
      case measure=>simp [intOf]
    ·have HF2:=hid (show RR=A++46::B by rw [HF.out];exact AC2.out A B hAB)
     have lAB:A.length+B.length≤100000:=by
      by_cases hi:i2<0
      ·rw [if_pos hi] at hAB;injection hAB with a b;rw [a,b];exact L1.out
      ·rw [if_neg hi] at hAB;injection hAB with a b;rw [a,b];exact L3.out
     have sA:(bsOf A).size≤100000:=by rw [bs_size];omega
     have sB:(bsOf B).size≤100000:=by rw [bs_size];omega
     have sAp:(bsOf (A++ [46])).size≤100001:=by rw [bs_size,List.length_append];simp;omega
     have a1:bsOf A++(⟨#[46]⟩:ByteArray)=bsOf (A++ [46]):=bs_app A [46]
     have a2:bsOf (A++ [46])++bsOf B=bsOf (A++46::B):=by rw [bs_app,List.append_assoc];rfl
     clear hAB lAB AC2 SA1 SA2 N1 hI1 hI2 zA0 zA1 HF hCT
     go_wp2_with fail
     go_ret
     exact ⟨by rw [HF2.out];first|rfl|(rw [←a2,←a1];rfl),by (repeat' first|(with_reducible first|assumption|apply bR|apply bA|apply bN|apply bD|apply bL|apply bS)|refine bT ?_ (by assumption)|go_size)⟩
  ·have HF2:=hid (show RR=S by rw [HF.out];exact HPT.out rfl)
   clear HF HPT AC SA1 SA2 N1
   go_wp2_with (go_at_call 74;(with_reducible refine (hCT.out _).mono ?_);rintro en w8 ⟨rfl,rfl⟩)
   go_ret
   exact ⟨by rw [HF2.out,hQ];rfl,by (repeat' first|(with_reducible first|assumption|apply bR|apply bA|apply bN|apply bD|apply bL|apply bS)|refine bT ?_ (by assumption)|go_size)⟩
end Go.Proofs.YtfphmlmgjhebjaaGreatDoor
