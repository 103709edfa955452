/- WantedSays: what the proof leans on, part 30 (Wa19 Wa20 Wa21 Re10 Wa3). -/
import Derived.Laws.Runes
import Derived.WalkMore
import Derived.Test.YtfphmlmgjhebjaaGreatDoorKWantedSays18
import Derived.Test.YtfphmlmgjhebjaaGreatDoorKWantedSays19
import Derived.Test.YtfphmlmgjhebjaaGreatDoorKWantedSays29
set_option linter.unusedVariables false
set_option linter.unusedSimpArgs false
namespace Go.Ulp
open Go.RowKit
theorem negB_abs (x:Int):negB (absOf x)=false:=decide_eq_false (by unfold absOf;omega)
theorem class_abs (x:Int):classOf (absOf x)=classOf x:=by
 have a:expOf (absOf x)=expOf x:=by unfold expOf absOf;omega
 have b:fracOf (absOf x)=fracOf x:=by unfold fracOf absOf;omega
 unfold classOf
 rw [a,b]
theorem hfT_head (x:Int) (n:Nat) (mode:Int) (hn:negB x=false): ∃R,hfT x n mode=48::120::R:=by unfold hfT hxT dsh;rw [hn];exact ⟨_,rfl⟩
theorem wvS_head (al:Bool) (pr x pd:Int) (hn:negB x=false) (h5:classOf x≠5) (h4:classOf x≠4): ∃R,wvS 97 al pr x pd=48::120::R:=by
 unfold wvS
 rw [if_neg (by decide),if_neg (by decide),if_neg (by decide)]
 split
 ·unfold hexTx
  rw [if_neg h5,if_neg h4]
  split
  ·unfold dsh;rw [hn];exact ⟨_,rfl⟩
  ·exact hfT_head _ _ _ hn
 ·unfold hexFx
  split
  ·unfold hxZ dsh;rw [hn];exact ⟨_,rfl⟩
  ·exact hfT_head _ _ _ hn
theorem wvT_head (al:Bool) (pr x pd:Int) (hn:negB x=false) (h5:classOf x≠5) (h4:classOf x≠4): ∃R,wvT 97 al pr x pd=48::120::R:=by
 obtain ⟨R,hR⟩:=wvS_head al pr x pd hn h5 h4
 unfold wvT
 rw [hR]
 split
 ·unfold alS
  split
  ·exact ⟨R,rfl⟩
  ·rw [if_pos rfl]
   unfold aheadB
   rw [List.takeWhile_cons_of_pos (by decide),List.takeWhile_cons_of_pos (by decide)]
   exact ⟨_,rfl⟩
 ·exact ⟨R,rfl⟩
theorem rep_snoc (c:UInt8) (j:Nat):List.replicate j c++ [c]=List.replicate (j+1) c:=by rw [List.replicate_succ']
end Go.Ulp
namespace Go.Proofs.YtfphmlmgjhebjaaGreatDoor
open Go.RowKit Go.Ulp
theorem bodyW_any (verb x:Int) (hvb:verb=101∨verb=102∨verb=103∨verb=97) (h0:0≤x) (h1:x<18446744073709551616) (hv:hasVal x=true) (hn:negB x=false) (wd pr:Int) (mi pl bl ze al:Bool) (hp: -1≤pr∧pr≤100) (pd:Int) (hd:(fv x).1≠0→IsDec (dA (fv x)) (dB (fv x)) pd) (hpb: -1200≤pd∧pd≤1200) (w:World):
 Calls Tryz.prog 77 #[.agg #[.int .i64 verb,.bool mi,.bool pl,.bool bl,.bool ze,.bool al,.int .i64 wd,.int .i64 pr],.int .u64 x] w fun e w'=>e=.returned (.string (bsOf (wvT verb al pr x pd)))∧Below w.heap.size w w':=by
 have hc:=hv_cls x
 rw [hv] at hc
 simp only [Bool.true_eq,Bool.and_eq_true,decide_eq_true_eq] at hc
 have e:wvT verb al pr x pd=if al=true then alR (wvS verb al pr x pd) else wvS verb al pr x pd:=by
  unfold wvT
  rw [alR_same verb _ (wvS_p verb al pr x pd hvb hd hn hc.1 hc.2)]
 rw [e]
 rcases hvb with rfl|rfl|rfl|rfl
 ·exact bodyW_e x h0 h1 hv wd pr mi pl bl ze al hp pd hd hpb _ rfl w
 ·exact bodyW_f x h0 h1 hv wd pr mi pl bl ze al hp _ rfl w
 ·exact bodyW_g x h0 h1 hv hn wd pr mi pl bl ze al hp pd hd hpb _ rfl w
 ·exact bodyW_a x h0 h1 hv hn wd pr mi pl bl ze al hp _ rfl w
set_option maxHeartbeats 16000000
set_option maxRecDepth 100000
theorem printed_any (verb wd pr x:Int) (mi pl bl ze al:Bool) (hok:wfO verb wd pr) (h0:0≤x) (h1:x<18446744073709551616) (pd:Int) (hd:(fv (absOf x)).1≠0→IsDec (dA (fv (absOf x))) (dB (fv (absOf x))) pd) (hpb: -1200≤pd∧pd≤1200) (w:World):
 Calls Tryz.prog 26 #[.agg #[.int .i64 verb,.bool mi,.bool pl,.bool bl,.bool ze,.bool al,.int .i64 wd,.int .i64 pr],.int .u64 x] w fun e w'=>e=.returned (.string (bsOf (wfT verb wd pr mi pl bl ze al x pd)))∧Below w.heap.size w w':=by
 obtain ⟨hvb,hwd,hp,h30⟩:=hok
 obtain ⟨a0,a1⟩:=absOf_bd x
 have lH:=sgW_len x pl bl
 have MN:=hid (fun w=>rMinus_any x h0 h1 w)
 have NN:=hid (fun w=>hIsNan_any x h0 h1 w)
 have IN:=hid (fun w=>hIsInf_any x h0 h1 w)
 have HV:=hid (fun w=>hasV_any x h0 h1 w)
 have hcl:=hv_cls x
 obtain ⟨B,hB⟩: ∃B,B=wfB verb al pr x pd:=⟨_,rfl⟩
 obtain ⟨H,hH⟩: ∃H,H=sgW x pl bl:=⟨_,rfl⟩
 rw [←hH] at lH
 have lB:B.length≤4000:=by
  rw [hB];unfold wfB
  split
  ·simp
  split
  ·simp
  ·have:=wvT_len verb al pr (absOf x) pd a0 a1 hp hd hpb;omega
 have hBv:Hid (hasVal x=true→ ∀W,Calls Tryz.prog 77 #[.agg #[.int .i64 verb,.bool mi,.bool pl,.bool bl,.bool ze,.bool al,.int .i64 wd,.int .i64 pr],.int .u64 (absOf x)] W fun e w'=>e=.returned (.string (bsOf B))∧Below W.heap.size W w'):=hid (fun hv W=>by
  rw [hv] at hcl
  simp only [Bool.true_eq,Bool.and_eq_true,decide_eq_true_eq] at hcl
  rw [hB];unfold wfB;rw [if_neg hcl.1,if_neg hcl.2]
  exact bodyW_any verb (absOf x) hvb a0 a1 (by rw [hasVal_abs,hv]) (negB_abs x) wd pr mi pl bl ze al hp pd hd hpb W)
 have hB97:Hid (hasVal x=true→verb=97→ ∃D,B=48::120::D):=hid (fun hv v97=>by
  rw [hv] at hcl
  simp only [Bool.true_eq,Bool.and_eq_true,decide_eq_true_eq] at hcl
  rw [hB,v97];unfold wfB;rw [if_neg hcl.1,if_neg hcl.2]
  exact wvT_head al pr (absOf x) pd (negB_abs x) (by rw [class_abs];exact hcl.1) (by rw [class_abs];exact hcl.2))
 have hB0:Hid (hasVal x=false→B=if classOf x=4 then [105,110,102] else [110,97,110]):=hid (fun hv=>by
  rw [hv] at hcl
  rw [hB];unfold wfB
  by_cases c5:classOf x=5
  ·rw [if_pos c5,if_neg (by omega)]
  ·rw [if_neg c5]
   by_cases c4:classOf x=4
   ·rw [if_pos c4,if_pos c4]
   ·rw [decide_eq_true c5,decide_eq_true c4] at hcl;cases hcl)
 have hHs:H=if (negB x&&!decide (classOf x=5))=true then [45] else if pl=true then [43] else if bl=true then [32] else []:=by
  rw [hH];unfold sgW
  by_cases c:negB x=true∧classOf x≠5
  ·rw [if_pos c,if_pos (by rw [c.1,decide_eq_false c.2];rfl)]
  ·have d: ¬(negB x&&!decide (classOf x=5))=true:=fun h=>c (by
    simp only [Bool.and_eq_true,Bool.not_eq_true',decide_eq_false_iff_not] at h
    exact h)
   rw [if_neg c,if_neg d]
 obtain ⟨RR,hRR⟩: ∃r,r=wfT verb wd pr mi pl bl ze al x pd:=⟨_,rfl⟩
 have hRF:RR=wfF verb wd mi (ze&&hasVal x) H B:=by rw [hRR,hH,hB];rfl
 rw [←hRR]
 clear hRR hcl hH hB
 have eabs:x.tmod 9223372036854775808=absOf x:=Int.tmod_eq_emod_of_nonneg h0
 obtain ⟨nb,hnb⟩: ∃b,b=decide (classOf x=5):=⟨_,rfl⟩
 obtain ⟨ib,hib⟩: ∃b,b=decide (classOf x=4):=⟨_,rfl⟩
 obtain ⟨mb,hmb⟩: ∃b,b=negB x:=⟨_,rfl⟩
 obtain ⟨hb,hhb⟩: ∃b,b=hasVal x:=⟨_,rfl⟩
 rw [←hnb] at NN hHs
 rw [←hib] at IN
 rw [←hmb] at MN hHs
 rw [←hhb] at HV hBv hB97 hB0 hRF
 obtain ⟨B0,hB0'⟩: ∃L:List UInt8,L=if classOf x=4 then [105,110,102] else [110,97,110]:=⟨_,rfl⟩
 rw [←hB0'] at hB0
 have HB0:Hid ((ib=true→B0= [105,110,102])∧(ib=false→B0= [110,97,110])):=hid (by
  rw [hB0',hib]
  by_cases c:classOf x=4
  ·rw [if_pos c,decide_eq_true c];exact ⟨fun _=>rfl,fun h=>(by cases h)⟩
  ·rw [if_neg c,decide_eq_false c];exact ⟨fun h=>(by cases h),fun _=>rfl⟩)
 generalize absOf x=ax at *
 have HRF:=hid hRF
 have HHS:=hid hHs
 have LH:=hid lH
 have LB:=hid lB
 have HWD:=hid hwd
 have zB:V8 (w.alloc (.cells #[.int .i64 verb,.bool mi,.bool pl,.bool bl,.bool ze,.bool al,.int .i64 wd,.int .i64 pr] 50)) w.heap.size #[.int .i64 verb,.bool mi,.bool pl,.bool bl,.bool ze,.bool al,.int .i64 wd,.int .i64 pr]:=V8.made rfl
 clear hnb hib hmb hhb hB0' hRF hHs lH lB hwd h30 hvb hp hd hpb a0 a1 h0 h1
 go_enter Tryz.func26,Tryz.ntmps26
 go_upto_block 0 with fail
 go_cut [5] (fun s5 wx=>s5=.string (bsOf H)∧wx=w.alloc (.cells #[.int .i64 verb,.bool mi,.bool pl,.bool bl,.bool ze,.bool al,.int .i64 wd,.int .i64 pr] 50))
 case first=>
  obtain ⟨z0,z1,z2,z3,z4,z5,z6,z7⟩:=zB.cells.1
  cases mb
  ·cases pl
   ·cases bl
    all_goals
     go_wp2_with (first
      |(go_at_call 51;(with_reducible refine (MN.out _).mono ?_);rintro en w1 ⟨rfl,rfl⟩)
      |(go_at_call 49;(with_reducible refine (NN.out _).mono ?_);rintro en w1 ⟨rfl,rfl⟩))
     go_meet
     exact ⟨by rw [HHS.out];rfl,rfl⟩
   ·go_wp2_with (first
     |(go_at_call 51;(with_reducible refine (MN.out _).mono ?_);rintro en w1 ⟨rfl,rfl⟩)
     |(go_at_call 49;(with_reducible refine (NN.out _).mono ?_);rintro en w1 ⟨rfl,rfl⟩))
    go_meet
    exact ⟨by rw [HHS.out];rfl,rfl⟩
  ·cases nb
   ·go_wp2_with (first
     |(go_at_call 51;(with_reducible refine (MN.out _).mono ?_);rintro en w1 ⟨rfl,rfl⟩)
     |(go_at_call 49;(with_reducible refine (NN.out _).mono ?_);rintro en w1 ⟨rfl,rfl⟩))
    go_meet
    exact ⟨by rw [HHS.out];rfl,rfl⟩
   ·cases pl
    ·cases bl
     all_goals
      go_wp2_with (first
       |(go_at_call 51;(with_reducible refine (MN.out _).mono ?_);rintro en w1 ⟨rfl,rfl⟩)
       |(go_at_call 49;(with_reducible refine (NN.out _).mono ?_);rintro en w1 ⟨rfl,rfl⟩))
      go_meet
      exact ⟨by rw [HHS.out];rfl,rfl⟩
    ·go_wp2_with (first
      |(go_at_call 51;(with_reducible refine (MN.out _).mono ?_);rintro en w1 ⟨rfl,rfl⟩)
      |(go_at_call 49;(with_reducible refine (NN.out _).mono ?_);rintro en w1 ⟨rfl,rfl⟩))
     go_meet
     exact ⟨by rw [HHS.out];rfl,rfl⟩
 case rest=>
 obtain ⟨rfl,rfl⟩:=hcut
 clear HHS MN NN
 go_upto_if 23 with (go_at_call 53;(with_reducible refine (IN.out _).mono ?_);rintro en w1 ⟨rfl,rfl⟩)
 go_cut [6] (fun s6 wx=>s6=.string (bsOf B0)∧wx=w.alloc (.cells #[.int .i64 verb,.bool mi,.bool pl,.bool bl,.bool ze,.bool al,.int .i64 wd,.int .i64 pr] 50))
 case first=>
  cases ib
  all_goals
   go_wp2_with fail
   go_meet
   exact ⟨by first|(rw [HB0.out.1 (by first|rfl|trivial)];rfl)|(rw [HB0.out.2 (by first|rfl|trivial)];rfl),rfl⟩
 case rest=>
 obtain ⟨rfl,rfl⟩:=hcut
 clear HB0 IN
 go_upto_if 25 with (go_at_call 76;(with_reducible refine (HV.out _).mono ?_);rintro en w1 ⟨rfl,rfl⟩)
 go_cut [6,7] (fun s6 s7 wx=>s6=.string (bsOf B)∧s7=.string (if (ze&&hb)=true then ⟨#[48]⟩ else ⟨#[32]⟩)∧Below w.heap.size w wx∧V8 wx w.heap.size #[.int .i64 verb,.bool mi,.bool pl,.bool bl,.bool ze,.bool al,.int .i64 wd,.int .i64 pr])
 case first=>
  cases hb
  ·go_wp2_with fail
   go_meet
   exact ⟨by rw [hB0.out (by first|rfl|trivial)],by rw [Bool.and_false];rfl,by (repeat' first|(with_reducible first|assumption|apply bR|apply bA|apply bN|apply bD|apply bL|apply bS)|refine bT ?_ (by assumption)|go_size),zB⟩
  ·have BD:=hid (hBv.out (by first|rfl|trivial))
   obtain ⟨z0,z1,z2,z3,z4,z5,z6,z7⟩:=zB.cells.1
   cases ze
   all_goals
    go_wp2_with (go_at_call 77;(with_reducible refine (BD.out _).mono ?_);rintro en w4 ⟨rfl,hb4⟩;have y4:=(zB.below hb4).cells.1.2.2.2.2.1)
    go_meet
    exact ⟨rfl,rfl,by (repeat' first|(with_reducible first|assumption|apply bR|apply bA|apply bN|apply bD|apply bL|apply bS)|refine bT ?_ (by assumption)|go_size),zB.below hb4⟩
 case rest=>
 obtain ⟨rfl,rfl,hbx,zB3⟩:=hcut
 obtain ⟨W1,hW1⟩: ∃W,W=wc:=⟨_,rfl⟩
 subst hW1
 rename_i K hK
 refine hK _ _ ?_
 clear hBv hB0 HV zB eabs
 obtain ⟨z0,z1,-,-,-,-,z6,-⟩:=zB3.cells.1
 clear zB3
 obtain ⟨n,hn⟩: ∃n,n=wnN wd H B:=⟨_,rfl⟩
 have HN:Hid (n=(wd-(H.length:Int)-(B.length:Int)).toNat):=hid hn
 obtain ⟨zv,hzv⟩: ∃b,b=(ze&&hb):=⟨_,rfl⟩
 rw [←hzv] at HRF ⊢
 have HZV:=hid hzv
 clear hzv
 cases mi
 ·cases zv
  ·as_aux_lemma=>
   rw [if_neg (show ¬false=true from fun h=>by cases h)]
   clear HZV hB97
   have SZ1:Hid (∀j:Nat,(List.replicate j 32++H).length+(B).length=H.length+B.length+j):=hid (fun j=>by rw [List.length_append,List.length_replicate];omega)
   have FIN:Hid (RR=List.replicate n 32++H++(B)):=hid (by rw [HRF.out,hn];unfold wfF;rw [if_neg (fun h=>by cases h),if_neg (fun h=>by cases h)])
   clear HRF hn
   go_wp2_with fail
   go_loopw [5,6] (fun s5 s6 wr=> ∃j:Nat,s5=.string (bsOf (List.replicate j 32++H))∧s6=.string (bsOf (B))∧j≤n∧wr=W1) (fun s5 s6 _=>match s5,s6 with| .string p,.string q=>100000-(p.size+q.size)|_,_=>0)
   case atStart=>exact ⟨0,by rw [List.replicate_zero,List.nil_append],rfl,by omega,rfl⟩
   case round=>
    obtain ⟨j,rfl,rfl,hj,rfl⟩:=hrel
    have hsum:=SZ1.out j
    have hsum2:=SZ1.out (j+1)
    have LH9:=LH.out
    have LB9:=LB.out
    have HW9:=HWD.out
    have HN9:=HN.out
    obtain ⟨a1,ha1⟩: ∃z:Int,z=((List.replicate j 32++H).length:Int):=⟨_,rfl⟩
    obtain ⟨a2,ha2⟩: ∃z:Int,z=((B).length:Int):=⟨_,rfl⟩
    have p1:((bsOf (List.replicate j 32++H)).size:Int)=a1:=by rw [bs_size,ha1]
    have p2:((bsOf (B)).size:Int)=a2:=by rw [bs_size,ha2]
    have k1:(bsOf (List.replicate j 32++H)).size≤100000:=by rw [bs_size];omega
    have k2:(bsOf (B)).size≤100000:=by rw [bs_size];omega
    have ws:IntKind.i64.wrap (a1+a2)=a1+a2:=IntWalk.i64_in _ (by omega)
    by_cases hlt:j<n
    ·have g1:a1+a2<wd:=by omega
     have HM:=hid (show 100000-((bsOf (List.replicate (j+1) 32++H)).size+(bsOf (B)).size)<100000-((bsOf (List.replicate j 32++H)).size+(bsOf (B)).size) by simp only [bs_size];omega)
     have u:(⟨#[32]⟩:ByteArray)++bsOf (List.replicate j 32++H)=bsOf (List.replicate (j+1) 32++H):=bs_app [32] _
     clear hsum hsum2 LH9 LB9 HW9 HN9 ha1 ha2
     go_wp2_with fail
     go_roundw
     case rel=>exact ⟨j+1,by first|rfl|trivial,by first|rfl|trivial,by omega,by first|rfl|trivial⟩
     case measure=>exact HM.out
    ·have g1: ¬a1+a2<wd:=by omega
     have hjn:j=n:=by omega
     subst hjn
     have e0:bsOf (List.replicate j 32++H)++bsOf (B)=bsOf RR:=by rw [bs_app,FIN.out]
     clear hsum hsum2 LH9 LB9 HW9 HN9 ha1 ha2 hlt
     go_wp2_with fail
     go_ret
     exact ⟨by first|rfl|(rw [e0];rfl),by (repeat' first|(with_reducible first|assumption|apply bR|apply bA|apply bN|apply bD|apply bL|apply bS)|refine bT ?_ (by assumption)|go_size)⟩
  ·rw [if_pos rfl]
   have hzb:hb=true:=by
    have:=HZV.out
    cases hb
    ·rw [Bool.and_false] at this;cases this
    ·rfl
   by_cases v97:verb=97
   ·as_aux_lemma=>
    subst v97
    obtain ⟨D,hBD⟩:=hB97.out hzb rfl
    clear HZV hB97 hzb
    have SZ1:Hid (∀j:Nat,(H).length+(48::120::(List.replicate j 48++D)).length=H.length+B.length+j):=hid (fun j=>by rw [hBD,List.length_cons,List.length_cons,List.length_cons,List.length_cons,List.length_append,List.length_replicate];omega)
    have FIN:Hid (RR=H++(48::120::(List.replicate n 48++D))):=hid (by rw [HRF.out,hn];unfold wfF;rw [if_neg (fun h=>by cases h),if_pos rfl,if_pos rfl,←hn,hBD];simp)
    clear HRF hn
    go_wp2_with fail
    go_loopw [5,6] (fun s5 s6 wr=> ∃j:Nat,s5=.string (bsOf (H))∧s6=.string (bsOf (48::120::(List.replicate j 48++D)))∧j≤n∧wr=W1) (fun s5 s6 _=>match s5,s6 with| .string p,.string q=>100000-(p.size+q.size)|_,_=>0)
    case atStart=>exact ⟨0,rfl,by rw [List.replicate_zero,List.nil_append,hBD],by omega,rfl⟩
    case round=>
     obtain ⟨j,rfl,rfl,hj,rfl⟩:=hrel
     have hsum:=SZ1.out j
     have hsum2:=SZ1.out (j+1)
     have LH9:=LH.out
     have LB9:=LB.out
     have HW9:=HWD.out
     have HN9:=HN.out
     obtain ⟨a1,ha1⟩: ∃z:Int,z=((H).length:Int):=⟨_,rfl⟩
     obtain ⟨a2,ha2⟩: ∃z:Int,z=((48::120::(List.replicate j 48++D)).length:Int):=⟨_,rfl⟩
     have p1:((bsOf (H)).size:Int)=a1:=by rw [bs_size,ha1]
     have p2:((bsOf (48::120::(List.replicate j 48++D))).size:Int)=a2:=by rw [bs_size,ha2]
     have k1:(bsOf (H)).size≤100000:=by rw [bs_size];omega
     have k2:(bsOf (48::120::(List.replicate j 48++D))).size≤100000:=by rw [bs_size];omega
     have ws:IntKind.i64.wrap (a1+a2)=a1+a2:=IntWalk.i64_in _ (by omega)
     by_cases hlt:j<n
     ·have g1:a1+a2<wd:=by omega
      have HM:=hid (show 100000-((bsOf (H)).size+(bsOf (48::120::(List.replicate (j+1) 48++D))).size)<100000-((bsOf (H)).size+(bsOf (48::120::(List.replicate j 48++D))).size) by simp only [bs_size];omega)
      have sl:=slice_from (P:=Tryz.prog) Tryz.underlying9 (48::120::(List.replicate j 48++D)) 2 (by omega) (by simp;omega)
      rw [show (2:Int).toNat=2 from rfl,List.drop_succ_cons,List.drop_succ_cons,List.drop_zero] at sl
      have k3:(bsOf (List.replicate j 48++D)).size≤100000:=by rw [bs_size];simp at hsum;simp;omega
      have u:(⟨#[48,120,48]⟩:ByteArray)++bsOf (List.replicate j 48++D)=bsOf (48::120::(List.replicate (j+1) 48++D)):=bs_app [48,120,48] _
      clear hsum hsum2 LH9 LB9 HW9 HN9 ha1 ha2
      go_wp2_with fail
      go_roundw
      case rel=>exact ⟨j+1,by first|rfl|trivial,by first|rfl|trivial,by omega,by first|rfl|trivial⟩
      case measure=>exact HM.out
     ·have g1: ¬a1+a2<wd:=by omega
      have hjn:j=n:=by omega
      subst hjn
      have e0:bsOf (H)++bsOf (48::120::(List.replicate j 48++D))=bsOf RR:=by rw [bs_app,FIN.out]
      clear hsum hsum2 LH9 LB9 HW9 HN9 ha1 ha2 hlt
      go_wp2_with fail
      go_ret
      exact ⟨by first|rfl|(rw [e0];rfl),by (repeat' first|(with_reducible first|assumption|apply bR|apply bA|apply bN|apply bD|apply bL|apply bS)|refine bT ?_ (by assumption)|go_size)⟩
   ·as_aux_lemma=>
    have v97b:(verb==97)=false:=beq_eq_false_iff_ne.2 v97
    clear HZV hB97 hzb
    have SZ1:Hid (∀j:Nat,(H).length+(List.replicate j 48++B).length=H.length+B.length+j):=hid (fun j=>by rw [List.length_append,List.length_replicate];omega)
    have FIN:Hid (RR=H++(List.replicate n 48++B)):=hid (by rw [HRF.out,hn];unfold wfF;rw [if_neg (fun h=>by cases h),if_pos rfl,if_neg v97,List.append_assoc])
    clear HRF hn
    go_wp2_with fail
    go_loopw [5,6] (fun s5 s6 wr=> ∃j:Nat,s5=.string (bsOf (H))∧s6=.string (bsOf (List.replicate j 48++B))∧j≤n∧wr=W1) (fun s5 s6 _=>match s5,s6 with| .string p,.string q=>100000-(p.size+q.size)|_,_=>0)
    case atStart=>exact ⟨0,rfl,by rw [List.replicate_zero,List.nil_append],by omega,rfl⟩
    case round=>
     obtain ⟨j,rfl,rfl,hj,rfl⟩:=hrel
     have hsum:=SZ1.out j
     have hsum2:=SZ1.out (j+1)
     have LH9:=LH.out
     have LB9:=LB.out
     have HW9:=HWD.out
     have HN9:=HN.out
     obtain ⟨a1,ha1⟩: ∃z:Int,z=((H).length:Int):=⟨_,rfl⟩
     obtain ⟨a2,ha2⟩: ∃z:Int,z=((List.replicate j 48++B).length:Int):=⟨_,rfl⟩
     have p1:((bsOf (H)).size:Int)=a1:=by rw [bs_size,ha1]
     have p2:((bsOf (List.replicate j 48++B)).size:Int)=a2:=by rw [bs_size,ha2]
     have k1:(bsOf (H)).size≤100000:=by rw [bs_size];omega
     have k2:(bsOf (List.replicate j 48++B)).size≤100000:=by rw [bs_size];omega
     have ws:IntKind.i64.wrap (a1+a2)=a1+a2:=IntWalk.i64_in _ (by omega)
     by_cases hlt:j<n
     ·have g1:a1+a2<wd:=by omega
      have HM:=hid (show 100000-((bsOf (H)).size+(bsOf (List.replicate (j+1) 48++B)).size)<100000-((bsOf (H)).size+(bsOf (List.replicate j 48++B)).size) by simp only [bs_size];omega)
      have u:(⟨#[48]⟩:ByteArray)++bsOf (List.replicate j 48++B)=bsOf (List.replicate (j+1) 48++B):=bs_app [48] _
      clear hsum hsum2 LH9 LB9 HW9 HN9 ha1 ha2
      go_wp2_with fail
      go_roundw
      case rel=>exact ⟨j+1,by first|rfl|trivial,by first|rfl|trivial,by omega,by first|rfl|trivial⟩
      case measure=>exact HM.out
     ·have g1: ¬a1+a2<wd:=by omega
      have hjn:j=n:=by omega
      subst hjn
      have e0:bsOf (H)++bsOf (List.replicate j 48++B)=bsOf RR:=by rw [bs_app,FIN.out]
      clear hsum hsum2 LH9 LB9 HW9 HN9 ha1 ha2 hlt
      go_wp2_with fail
      go_ret
      exact ⟨by first|rfl|(rw [e0];rfl),by (repeat' first|(with_reducible first|assumption|apply bR|apply bA|apply bN|apply bD|apply bL|apply bS)|refine bT ?_ (by assumption)|go_size)⟩
 ·as_aux_lemma=>
  clear HZV hB97
  have hs7: ∃q:ByteArray,q=if zv=true then ⟨#[48]⟩ else ⟨#[32]⟩:=⟨_,rfl⟩
  obtain ⟨q7,hq7⟩:=hs7
  rw [←hq7]
  clear hq7
  have SZ1:Hid (∀j:Nat,(H).length+(B++List.replicate j 32).length=H.length+B.length+j):=hid (fun j=>by rw [List.length_append,List.length_replicate];omega)
  have FIN:Hid (RR=H++(B++List.replicate n 32)):=hid (by rw [HRF.out,hn];unfold wfF;rw [if_pos rfl,List.append_assoc])
  clear HRF hn
  go_wp2_with fail
  go_loopw [5,6] (fun s5 s6 wr=> ∃j:Nat,s5=.string (bsOf (H))∧s6=.string (bsOf (B++List.replicate j 32))∧j≤n∧wr=W1) (fun s5 s6 _=>match s5,s6 with| .string p,.string q=>100000-(p.size+q.size)|_,_=>0)
  case atStart=>exact ⟨0,rfl,by rw [List.replicate_zero,List.append_nil],by omega,rfl⟩
  case round=>
   obtain ⟨j,rfl,rfl,hj,rfl⟩:=hrel
   have hsum:=SZ1.out j
   have hsum2:=SZ1.out (j+1)
   have LH9:=LH.out
   have LB9:=LB.out
   have HW9:=HWD.out
   have HN9:=HN.out
   obtain ⟨a1,ha1⟩: ∃z:Int,z=((H).length:Int):=⟨_,rfl⟩
   obtain ⟨a2,ha2⟩: ∃z:Int,z=((B++List.replicate j 32).length:Int):=⟨_,rfl⟩
   have p1:((bsOf (H)).size:Int)=a1:=by rw [bs_size,ha1]
   have p2:((bsOf (B++List.replicate j 32)).size:Int)=a2:=by rw [bs_size,ha2]
   have k1:(bsOf (H)).size≤100000:=by rw [bs_size];omega
   have k2:(bsOf (B++List.replicate j 32)).size≤100000:=by rw [bs_size];omega
   have ws:IntKind.i64.wrap (a1+a2)=a1+a2:=IntWalk.i64_in _ (by omega)
   by_cases hlt:j<n
   ·have g1:a1+a2<wd:=by omega
    have HM:=hid (show 100000-((bsOf (H)).size+(bsOf (B++List.replicate (j+1) 32)).size)<100000-((bsOf (H)).size+(bsOf (B++List.replicate j 32)).size) by simp only [bs_size];omega)
    have u:bsOf (B++List.replicate j 32)++(⟨#[32]⟩:ByteArray)=bsOf (B++List.replicate (j+1) 32):=by rw [←rep_snoc,←List.append_assoc];exact bs_app _ [32]
    clear hsum hsum2 LH9 LB9 HW9 HN9 ha1 ha2
    go_wp2_with fail
    go_roundw
    case rel=>exact ⟨j+1,by first|rfl|trivial,by first|rfl|trivial,by omega,by first|rfl|trivial⟩
    case measure=>exact HM.out
   ·have g1: ¬a1+a2<wd:=by omega
    have hjn:j=n:=by omega
    subst hjn
    have e0:bsOf (H)++bsOf (B++List.replicate j 32)=bsOf RR:=by rw [bs_app,FIN.out]
    clear hsum hsum2 LH9 LB9 HW9 HN9 ha1 ha2 hlt
    go_wp2_with fail
    go_ret
    exact ⟨by first|rfl|(rw [e0];rfl),by (repeat' first|(with_reducible first|assumption|apply bR|apply bA|apply bN|apply bD|apply bL|apply bS)|refine bT ?_ (by assumption)|go_size)⟩
end Go.Proofs.YtfphmlmgjhebjaaGreatDoor
namespace Go.Ulp
open Go.RowKit
theorem enc_hi: ∀d:Nat,d<128→Utf8.encode ((d:Int)+128)=⟨#[UInt8.ofNat (192+(d+128)/64),UInt8.ofNat (128+d%64)]⟩:=by decide
theorem ib_hi: ∀d:Nat,d<64→Lib.indexByte [32,48,35] ((((UInt8.ofNat (128+d)).toNat:Int)).toNat.toUInt8)= -1:=by decide
theorem ib_marks: ∀d:Nat,d<128→decide (0≤Lib.indexByte [45,43,32,48,35] ((d:Int).toNat.toUInt8))=isMk (UInt8.ofNat d):=by decide
theorem mk_hi: ∀d:Nat,d<128→isMk (UInt8.ofNat (d+128))=false:=by decide
theorem c_hi: ∀d:Nat,d<64→128≤(UInt8.ofNat (128+d)).toNat∧(UInt8.ofNat (128+d)).toNat≤255:=by decide
end Go.Ulp
namespace Go.Proofs.YtfphmlmgjhebjaaGreatDoor
open Go.RowKit Go.Ulp
set_option maxHeartbeats 4000000
set_option maxRecDepth 100000
theorem validRune_hi (r:Int) (h0:0≤r) (h1:r<55296) (w:World):Calls Tryz.prog 192 #[.int .i32 r] w fun e w'=>e=.returned (.bool true)∧w=w':=by
 have g1:0≤r:=h0
 go_enter Tryz.func192,Tryz.ntmps192
 go_wp2_with fail
 go_ret
 exact ⟨rfl,rfl⟩
theorem indexRune_hi (r:Int) (h0:128≤r) (h1:r≤255) (w:World):Calls Tryz.prog 134 #[.string ⟨#[45,43,32,48,35]⟩,.int .i32 r] w fun e w'=>e=.returned (.int .i64 (-1))∧Below w.heap.size w w':=by
 have VR:=hid (fun w=>validRune_hi r (by omega) (by omega) w)
 obtain ⟨d,hd⟩: ∃d:Nat,r=(d:Int)+128:=⟨(r-128).toNat,by omega⟩
 have hd128:d<128:=by omega
 have he:=enc_hi d hd128
 rw [←hd] at he
 obtain ⟨c,hc⟩: ∃c:Int,c=((UInt8.ofNat (128+d%64)).toNat:Int):=⟨_,rfl⟩
 have hcb:128≤c∧c≤255:=by have:=c_hi (d%64) (Nat.mod_lt _ (by omega));omega
 have hS3: ∀w,(Instr.slice 9 (.string ⟨#[45,43,32,48,35]⟩) (some (.int .i64 2)) none none).run Tryz.prog w=.ok (.string ⟨#[32,48,35]⟩) w:=fun w=>by
  exact slice_from (P:=Tryz.prog) Tryz.underlying9 [45,43,32,48,35] 2 (by omega) (by simp) w
 have hix: ∀w,(Instr.index 9 (.string ⟨#[45,43,32,48,35]⟩) (.int .i64 1)).run Tryz.prog w=.ok (.int .u8 43) w:=fun w=>run_index (P:=Tryz.prog) Tryz.underlying9 [45,43,32,48,35] 1 43 [32,48,35] rfl w
 have hiq: ∀w,(Instr.index 9 (.string (Utf8.encode r)) (.int .i64 1)).run Tryz.prog w=.ok (.int .u8 c) w:=fun w=>by
  rw [he,hc]
  exact run_index (P:=Tryz.prog) Tryz.underlying9 [UInt8.ofNat (192+(d+128)/64),UInt8.ofNat (128+d%64)] 1 _ [] rfl w
 have hsq:((Utf8.encode r).size:Int)=2:=by rw [he];rfl
 have hx3:(⟨#[45,43,32,48,35]⟩:ByteArray).extract 2 (⟨#[45,43,32,48,35]⟩:ByteArray).size=⟨#[32,48,35]⟩:=by decide
 have hs5:(((⟨#[45,43,32,48,35]⟩:ByteArray).size:Nat):Int)=5:=rfl
 have IB:=hid (fun w=>Tryz.strings_IndexByte ⟨#[32,48,35]⟩ c w)
 have hIB:Hid (∀w,Calls Tryz.prog 66 #[.string ⟨#[32,48,35]⟩,.int .u8 c] w fun e w'=>e=.returned (.int .i64 (-1))∧w=w'):=hid (fun w=>(IB.out w).mono (by
  rintro e w' ⟨rfl,rfl⟩
  refine ⟨?_,rfl⟩
  rw [hc]
  exact congrArg (fun z=>Ending.returned (.int .i64 z)) (ib_hi (d%64) (Nat.mod_lt _ (by omega)))))
 have n43: ¬(43:Int)=c:=by omega
 have b43:((43:Int) !=c)=true:=bne_iff_ne.2 n43
 have n128: ¬r<128:=by omega
 have nE:(r==65533)=false:=beq_eq_false_iff_ne.2 (by omega)
 have hr0:0≤r:=by omega
 have hcv: ∀w,(Go.convert 21 9 (.int .i32 r)).run Tryz.prog w=.ok (.string (Utf8.encode r)) w:=fun w=>run_convert_int_string w _ _ _ _ (by rw [show Tryz.prog.underlying 21=_ from Tryz.underlying21];rfl) Tryz.underlying9
 generalize Utf8.encode r=Q at *
 generalize (⟨#[45,43,32,48,35]⟩:ByteArray)=S5 at *
 generalize (⟨#[32,48,35]⟩:ByteArray)=S3 at *
 clear IB he hc hd hd128 hcb
 go_enter Tryz.func134,Tryz.ntmps134
 go_wp2_with (go_at_call 192;(with_reducible refine (VR.out _).mono ?_);rintro en w1 ⟨rfl,rfl⟩)
 go_step3
 go_wp2_with fail
 go_loopw [9,10] (fun s9 s10 wr=>s9=.int .i64 1∧s10=.int .i64 0∧wr=w) (fun _ _ _=>0)
 case atStart=>exact ⟨rfl,rfl,rfl⟩
 case round=>
  obtain ⟨rfl,rfl,rfl⟩:=hrel
  go_wp2_with fail
  go_step3
  go_wp2_with fail
  go_region
  go_wp2_with fail
  go_region_with (go_at_call 66;(with_reducible refine (hIB.out _).mono ?_);rintro en w1 ⟨rfl,rfl⟩)
  all_goals
   go_wp2_with fail
   repeat rw [Exit.noGoto_ret]
   simp+zetaDelta only [Exit.inBlock,Exit.then,Exit.noGoto_ret]
   go_ret
   exact ⟨rfl,by (repeat' first|(with_reducible first|assumption|apply bR|apply bA|apply bN|apply bD|apply bL|apply bS)|refine bT ?_ (by assumption)|go_size)⟩
theorem containsRune_hi (r:Int) (h0:128≤r) (h1:r≤255) (w:World):Calls Tryz.prog 72 #[.string ⟨#[45,43,32,48,35]⟩,.int .i32 r] w fun e w'=>e=.returned (.bool false)∧Below w.heap.size w w':=by
 have IR:=hid (fun w=>indexRune_hi r h0 h1 w)
 generalize (⟨#[45,43,32,48,35]⟩:ByteArray)=S5 at *
 clear h0 h1
 go_enter Tryz.func72,Tryz.ntmps72
 go_wp2_with (go_at_call 134;(with_reducible refine (IR.out _).mono ?_);rintro en w1 ⟨rfl,hb1⟩)
 go_ret
 exact ⟨rfl,hb1⟩
theorem marks_any (b:UInt8) (w:World):Calls Tryz.prog 72 #[.string ⟨#[45,43,32,48,35]⟩,.int .i32 (b.toNat:Int)] w fun e w'=>e=.returned (.bool (isMk b))∧Below w.heap.size w w':=by
 have hb:=b.toNat_lt
 by_cases h:b.toNat<128
 ·refine (Tryz.strings_ContainsRune_ascii ⟨#[45,43,32,48,35]⟩ (b.toNat:Int) w (by omega) (by omega)).mono ?_
  rintro e w' ⟨rfl,rfl⟩
  have k:=ib_marks b.toNat h
  rw [show UInt8.ofNat b.toNat=b by simp] at k
  exact ⟨congrArg (fun z=>Ending.returned (.bool z)) k,Below.refl _ _⟩
 ·refine (containsRune_hi (b.toNat:Int) (by omega) (by omega) w).mono ?_
  rintro e w' ⟨rfl,hb9⟩
  have k:=mk_hi (b.toNat-128) (by omega)
  rw [show b.toNat-128+128=b.toNat by omega,show UInt8.ofNat b.toNat=b by simp] at k
  rw [k]
  exact ⟨rfl,hb9⟩
end Go.Proofs.YtfphmlmgjhebjaaGreatDoor
namespace Go.Ulp
open Go.RowKit
theorem slice_mid {P:Program} {t:TypeId} (ht:P.underlying t=some .string) (E:List UInt8) (i j:Nat) (h:i≤j) (h2:j≤E.length) (w:World):(Instr.slice t (.string (bsOf E)) (some (.int .i64 (i:Int))) (some (.int .i64 (j:Int))) none).run P w=.ok (.string (bsOf ((E.drop i).take (j-i)))) w:=by
 have e:(bsOf E).extract i j=bsOf ((E.drop i).take (j-i)):=by
  apply ByteArray.ext
  simp [bsOf]
 rw [run_slice_string_if w t _ _ _ _ _ ht,if_pos ⟨by omega,by rw [bs_size];omega⟩,if_pos ⟨by omega,by omega⟩,Int.toNat_natCast,Int.toNat_natCast]
 exact congrArg (fun x=>Result.ok (Value.string x) w) e
end Go.Ulp
namespace Go.Proofs.YtfphmlmgjhebjaaGreatDoor
open Go.RowKit Go.Ulp
set_option maxHeartbeats 4000000
set_option maxRecDepth 100000
end Go.Proofs.YtfphmlmgjhebjaaGreatDoor
namespace Go.Ulp
open Go.RowKit
theorem cpN_same (L:List UInt8):(200<cpN 100000 L↔200<cpN 1000 L)∧(100<cpN 100000 L↔100<cpN 1000 L)∧(¬200<cpN 1000 L→cpN 100000 L=cpN 1000 L)∧(¬100<cpN 1000 L→cpN 100000 L=cpN 1000 L):=by
 unfold cpN;omega
theorem wpP_same (T:List UInt8):(100<wpP 100000 T↔100<wpP 1000 T)∧(¬100<wpP 1000 T→wpP 100000 T=wpP 1000 T):=by
 have h:=cpN_same (wpQ T)
 unfold wpP
 split<;>omega
theorem wpX_same (T:List UInt8):wpX 100000 (37::T)=wpX 1000 (37::T):=by
 have h:=cpN_same (wpR T)
 have k:=wpP_same T
 cases hE:wpE T with
 |nil=>rw [wpX_nil _ hE,wpX_nil _ hE]
 |cons v r=>
  cases r with
  |cons v2 r2=>rw [wpX_two _ hE,wpX_two _ hE]
  |nil=>
   rw [wpX_one _ hE,wpX_one _ hE]
   simp only [h.1,k.1]
theorem wpV_same (T:List UInt8):wpV 100000 (37::T)=wpV 1000 (37::T):=by
 have h:=cpN_same (wpR T)
 have k:=wpP_same T
 by_cases hx:wpX 1000 (37::T)=0
 ·cases hE:wpE T with
  |nil=>rw [wpX_nil _ hE] at hx;omega
  |cons v r=>
   cases r with
   |cons v2 r2=>rw [wpX_two _ hE] at hx;omega
   |nil=>
    rw [wpV_ok _ ((wpX_same T).trans hx) hE,wpV_ok _ hx hE]
    rw [wpX_one _ hE] at hx
    have hn: ¬(200<cpN 1000 (wpR T)∨100<wpP 1000 T):=fun hh=>by
     rw [if_pos hh] at hx
     split at hx<;>omega
    rw [h.2.2.1 (fun e=>hn (.inl e)),k.2 (fun e=>hn (.inr e))]
 ·rw [wpV_bad _ hx,wpV_bad _ (by rw [wpX_same];exact hx)]
end Go.Ulp
namespace Go.Proofs.YtfphmlmgjhebjaaGreatDoor
open Go.RowKit Go.Ulp
set_option maxHeartbeats 8000000
set_option maxRecDepth 100000
theorem specVal_any (L:List UInt8) (w:World) (hL:AllDg L) (hl:L.length≤9223372036854775806):
 Calls Tryz.prog 75 #[.string (bsOf L)] w fun e w'=>e=.returned (.int .i64 ((min (dvl L) 1000:Nat):Int))∧Below w.heap.size w w':=by
 have hcv:=Lib.run_convert_string_bytes (P:=Tryz.prog) w 9 105 5 (bsOf L) (u:=.string) Tryz.underlying9 Tryz.underlying105 Tryz.underlying5
 have hB: ∀j b r,L.drop j=b::r→(Lib.bytesWorld w 5 (bsOf L)).cell? ⟨w.heap.size,j,none⟩=some (.int .u8 (b.toNat:Int)):=fun j b r h=>by
  obtain ⟨q1,-,q3⟩:=drop_cons h
  have h9:=Lib.bytesWorld_cell w 5 (bsOf L) j (by rw [bs_size];exact q1)
  rw [bs_list,q3] at h9
  exact h9
 have yb:=Lib.bytesWorld_below w 5 (bsOf L)
 have hsz:=bs_size L
 obtain ⟨n,hn⟩: ∃n,n=L.length:=⟨_,rfl⟩
 rw [←hn] at hsz
 rw [hsz] at hcv
 obtain ⟨W1,hW1⟩: ∃W1,W1=Lib.bytesWorld w 5 (bsOf L):=⟨_,rfl⟩
 rw [←hW1] at hcv hB yb
 generalize grownCap w n 0 5=gc at *
 obtain ⟨V,hV⟩: ∃V,V=min (dvl L) 1000:=⟨_,rfl⟩
 rw [←hV]
 have HV:=hid hV
 have HNL:=hid hn
 have hn6:n≤9223372036854775806:=by omega
 obtain ⟨S,hS⟩: ∃S,S=bsOf L:=⟨_,rfl⟩
 rw [←hS] at hcv hsz ⊢
 clear hW1 hV hn hS
 go_enter Tryz.func75,Tryz.ntmps75
 go_wp2_with fail
 go_loopw [3,9] (fun s3 s9 wr=> ∃(j a:Nat),s3=.int .i64 (a:Int)∧s9=.int .i64 (j:Int)∧j≤n∧a≤1000∧Hid (min (a*10^(L.drop j).length+dvl (L.drop j)) 1000=V)∧wr=W1) (fun _ s9 _=>n-(intOf s9).toNat)
 case atStart=>exact ⟨0,0,rfl,rfl,by omega,by omega,hid (by rw [HV.out,List.drop_zero,Nat.zero_mul,Nat.zero_add]),rfl⟩
 case round=>
  obtain ⟨j,a,rfl,rfl,hj,ha,hh,rfl⟩:=hrel
  have hNL:=HNL.out
  cases hd:L.drop j with
  |nil=>
   have g1: ¬(j:Int)<(n:Int):=by
    have:=congrArg List.length hd
    rw [List.length_drop,List.length_nil] at this;omega
   have h9:=hh.out
   rw [hd] at h9
   have e:a=V:=by
    have:min (a*10^0+0) 1000=V:=h9
    omega
   subst e
   have HY:=hid yb
   clear hd hB hNL yb h9 hh
   go_wp2_with fail
   go_ret
   exact ⟨rfl,HY.out⟩
  |cons b r=>
   obtain ⟨q1,q2,-⟩:=drop_cons hd
   have hc:=hB j b r hd
   have hx:=hL b (List.mem_of_mem_drop (by rw [hd];exact List.mem_cons_self ..))
   have hbd:=dg_bd hx
   have g1:(j:Int)<(n:Int):=by omega
   have hjn:j+1≤n:=by omega
   have h9:=hh.out
   rw [hd,List.length_cons,dvl_cons,dvA_acc] at h9
   have h8:min (min (a*10+(b.toNat-48)) 1000*10^r.length+dvl r) 1000=V:=by
    rw [cap_step _ _ _ _ _ ha (Nat.pow_pos (by omega)),←h9,Nat.pow_succ,Nat.add_mul]
    congr 1
    rw [show a*(10^r.length*10)=a*10*10^r.length by rw [Nat.mul_assoc,Nat.mul_comm 10]]
    omega
   rw [←q2] at h8
   have H8:=hid h8
   obtain ⟨x,hxx⟩: ∃x:Int,x=(b.toNat:Int):=⟨_,rfl⟩
   rw [←hxx] at hc
   have w1:IntKind.u8.wrap (x-48)=x-48:=IntWalk.u8_in _ (by omega)
   have w2:IntKind.i64.wrap (x-48)=x-48:=IntWalk.i64_in _ (by omega)
   have w3:IntKind.i64.wrap (10*(a:Int))=10*(a:Int):=IntWalk.i64_in _ (by omega)
   have w4:IntKind.i64.wrap (10*(a:Int)+(x-48))=10*(a:Int)+(x-48):=IntWalk.i64_in _ (by omega)
   have wI:IntKind.i64.wrap ((j:Int)+1)=(j:Int)+1:=IntWalk.i64_in _ (by omega)
   have HYB:=hid yb
   by_cases hg:1000<10*(a:Int)+(x-48)
   ·have em:min (a*10+(b.toNat-48)) 1000=1000:=by omega
    rw [em] at H8
    clear hd hB hh h9 h8 hbd hx q1 q2 hxx yb em
    go_wp2_with fail
    go_roundw
    case rel=>exact ⟨j+1,1000,rfl,by go_num,by omega,by omega,H8,by first|rfl|trivial⟩
    case measure=>simp [intOf];omega
   ·obtain ⟨a',ha'⟩: ∃a':Nat,(a':Int)=10*(a:Int)+(x-48):=⟨(10*(a:Int)+(x-48)).toNat,by omega⟩
    have em:min (a*10+(b.toNat-48)) 1000=a':=by omega
    rw [em] at H8
    have hal:a'≤1000:=by omega
    have HA:=hid ha'
    clear hd hB hh h9 h8 hbd hx q1 q2 hxx yb em ha'
    go_wp2_with fail
    go_roundw
    case rel=>exact ⟨j+1,a',by rw [HA.out],by go_num,by omega,hal,H8,by first|rfl|trivial⟩
    case measure=>simp [intOf];omega
end Go.Proofs.YtfphmlmgjhebjaaGreatDoor
