/- WantedSays: what the proof leans on, part 28 (Wb10 Wa13 Rp1 Sy0 ShelfP Rn5 Rr5 Su0 Qs2 Re7 Sy3 Wa14 Wa15 Wa16). -/
import Derived.Shelf.Pu.ParseUintPublic10
import Derived.Ground.MpProg
import Derived.Test.YtfphmlmgjhebjaaGreatDoorProg
import Derived.Deep.DeepCutAuto
import Derived.Deep.CutBlock
import Derived.Lib.AtoiErrMem
import Derived.Test.YtfphmlmgjhebjaaGreatDoorKWantedSays6
import Derived.Test.YtfphmlmgjhebjaaGreatDoorKWantedSays11
import Derived.Test.YtfphmlmgjhebjaaGreatDoorKWantedSays12
import Derived.Test.YtfphmlmgjhebjaaGreatDoorKWantedSays13
import Derived.Test.YtfphmlmgjhebjaaGreatDoorKWantedSays14
import Derived.Test.YtfphmlmgjhebjaaGreatDoorKWantedSays18
import Derived.Test.YtfphmlmgjhebjaaGreatDoorKWantedSays20
import Derived.Test.YtfphmlmgjhebjaaGreatDoorKWantedSays21
import Derived.Test.YtfphmlmgjhebjaaGreatDoorKWantedSays23
import Derived.Test.YtfphmlmgjhebjaaGreatDoorKWantedSays27
set_option linter.unusedVariables false
set_option linter.unusedSimpArgs false
namespace Go.Proofs.YtfphmlmgjhebjaaGreatDoor
open Go.RowKit Go.Ulp
set_option maxHeartbeats 16000000
set_option maxRecDepth 100000
theorem formatW_all (verb wd pr x:Int) (hok:wfO verb wd pr) (h0:0≤x) (h1:x<18446744073709551616) (mi pl bl ze al:Bool) (H B:List UInt8) (lH:H.length≤1) (lB:B.length≤4000) (lB2:verb=97→2≤B.length) (hH:H=sgW x pl bl) (w:World)
 (hN:classOf x=5→B= [110,97,110]) (hI:classOf x=4→B= [105,110,102])
 (hV:classOf x≠5→classOf x≠4→ ∀W,Below w.heap.size w W→Calls Tryz.prog 68 #[.agg #[.int .i64 verb,.bool mi,.bool pl,.bool bl,.bool ze,.bool al,.int .i64 wd,.int .i64 pr],.int .u64 (absOf x)] W fun e w'=>e=.returned (.string (bsOf B))∧Below W.heap.size W w'):
 Calls Tryz.prog 23 #[.agg #[.int .i64 verb,.bool mi,.bool pl,.bool bl,.bool ze,.bool al,.int .i64 wd,.int .i64 pr],.int .u64 x] w fun e w'=>e=.returned (.tuple #[.string (bsOf (wfF verb wd mi (ze&&hasVal x) H B)),.int .i64 0])∧Below w.heap.size w w':=by
 obtain ⟨hvb,hwd,hp,h30⟩:=hok
 have zB:V8 (w.alloc (.cells #[.int .i64 verb,.bool mi,.bool pl,.bool bl,.bool ze,.bool al,.int .i64 wd,.int .i64 pr] 50)) w.heap.size #[.int .i64 verb,.bool mi,.bool pl,.bool bl,.bool ze,.bool al,.int .i64 wd,.int .i64 pr]:=V8.made rfl
 have SG:=hid (fun W=>hH▸signW_any x h0 h1 verb wd pr mi pl bl ze al W)
 have CL:=hid (fun W=>class_any x h0 h1 W)
 have HVX:=hid (fun W=>hasValue_any x h0 h1 W)
 have AB:=hid (fun W=>abs_any x h0 h1 W)
 obtain ⟨n,hn⟩: ∃n,n=wnN wd H B:=⟨_,rfl⟩
 have HR:=hid (show wfF verb wd mi (ze&&hasVal x) H B=if mi=true then H++B++List.replicate n 32 else if (ze&&hasVal x)=true then (if verb=97 then H++ [48,120]++List.replicate n 48++B.drop 2 else H++List.replicate n 48++B) else List.replicate n 32++H++B by rw [hn];rfl)
 generalize wfF verb wd mi (ze&&hasVal x) H B=RR at *
 generalize hasVal x=hx at *
 obtain ⟨c,hc⟩: ∃c,c=classOf x:=⟨_,rfl⟩
 rw [←hc] at CL hN hI hV
 generalize absOf x=ax at *
 have HN5:=hid hN
 have HI4:=hid hI
 have HVV:=hid hV
 have hnw:n≤200:=by rw [hn];unfold wnN;omega
 have RPs:Hid (∀W,Calls Tryz.prog 70 #[.string ⟨#[32]⟩,.int .i64 (n:Int)] W fun e w'=>e=.returned (.string (bsOf (List.replicate n 32)))∧Below W.heap.size W w'):=hid (fun W=>repeat_any 32 n (by omega) W)
 have RPz:Hid (∀W,Calls Tryz.prog 70 #[.string ⟨#[48]⟩,.int .i64 (n:Int)] W fun e w'=>e=.returned (.string (bsOf (List.replicate n 48)))∧Below W.heap.size W w'):=hid (fun W=>repeat_any 48 n (by omega) W)
 obtain ⟨hl,hhl⟩: ∃z,z=(H.length:Int):=⟨_,rfl⟩
 obtain ⟨lb,hlb⟩: ∃z,z=(B.length:Int):=⟨_,rfl⟩
 have k1:IntKind.i64.wrap (wd-hl)=wd-hl:=IntWalk.i64_in _ (by omega)
 have k2:IntKind.i64.wrap (wd-hl-lb)=wd-hl-lb:=IntWalk.i64_in _ (by omega)
 have k3:max (wd-hl-lb) 0=(n:Int):=by rw [hn,hhl,hlb];unfold wnN;omega
 have s1:((bsOf H).size:Int)=hl:=by rw [bs_size,hhl]
 have s2:(bsOf H).size≤100000:=by rw [bs_size];omega
 have s3:((bsOf B).size:Int)=lb:=by rw [bs_size,hlb]
 have s4:(bsOf B).size≤100000:=by rw [bs_size];omega
 have s5:(bsOf (List.replicate n 32)).size≤1000:=by rw [bs_size];simp;omega
 have s6:(bsOf (List.replicate n 48)).size≤1000:=by rw [bs_size];simp;omega
 have s7:(bsOf (H++ [48,120])).size≤100002:=by rw [bs_size,List.length_append];simp;omega
 have s8:(bsOf (B.drop 2)).size≤100000:=by rw [bs_size,List.length_drop];omega
 have a1:bsOf H++(⟨#[48,120]⟩:ByteArray)=bsOf (H++ [48,120]):=bs_app H [48,120]
 have SL:Hid (verb=97→ ∀w,(Instr.slice 9 (.string (bsOf B)) (some (.int .i64 2)) none none).run Tryz.prog w=.ok (.string (bsOf (B.drop 2))) w):=hid (fun h=>by
  have:=lB2 h
  have sl:=slice_from (P:=Tryz.prog) Tryz.underlying9 B 2 (by omega) (by omega)
  rwa [show (2:Int).toNat=2 from rfl] at sl)
 generalize hD:B.drop 2=D at *
 obtain ⟨mo,hmo⟩: ∃m:Int,m=if verb=97 then 30 else 100:=⟨_,rfl⟩
 have HMO:=hid hmo
 have wl1: ¬wd<0:=by omega
 have wl2: ¬wd>200:=by omega
 have wl3: ¬pr< -1:=by omega
 have wl4: ¬pr>mo:=by rw [hmo];split;(have:=h30 (by assumption);omega);omega
 have HVB:=hid hvb
 clear hD hn hhl hlb hc hH hnw lH lB lB2 hwd hp h0 h1 hN hI hV hmo h30 hvb
 obtain ⟨y0,y1,y2,y3,y4,y5,y6,y7⟩:=zB.cells.1
 go_enter Tryz.func23,Tryz.ntmps23
 go_upto_if 12 with fail
 go_cut [6] (fun s wx=>s=.int .i64 mo∧wx=w.alloc (.cells #[.int .i64 verb,.bool mi,.bool pl,.bool bl,.bool ze,.bool al,.int .i64 wd,.int .i64 pr] 50))
 case first=>
  by_cases h:verb=97
  ·have e:=HMO.out
   rw [if_pos h] at e
   subst e h
   go_wp2_with fail
   go_meet
   exact ⟨rfl,rfl⟩
  ·have e:=HMO.out
   rw [if_neg h] at e
   subst e
   have q:(verb==97)=false:=beq_eq_false_iff_ne.2 h
   go_wp2_with fail
   go_meet
   exact ⟨rfl,rfl⟩
 case rest=>
 obtain ⟨rfl,rfl⟩:=hcut
 clear HMO
 go_upto_region 4 with fail
 go_cut [51] (fun s wx=>s=.bool false∧wx=w.alloc (.cells #[.int .i64 verb,.bool mi,.bool pl,.bool bl,.bool ze,.bool al,.int .i64 wd,.int .i64 pr] 50))
 case first=>as_aux_lemma=>
  clear SG CL HVX AB HR HN5 HI4 HVV RPs RPz k1 k2 k3 s1 s2 s3 s4 s5 s6 s7 s8 a1 SL
  rcases HVB.out with e|e|e|e
  all_goals
   subst e
   go_wp2_with fail
   go_meet
   exact ⟨rfl,rfl⟩
 case rest=>
 obtain ⟨rfl,rfl⟩:=hcut
 clear HVB wl1 wl2 wl3 wl4
 go_upto_block 0 with (first|(go_at_call 67;(with_reducible refine (SG.out _).mono ?_);rintro en w3 ⟨rfl,hb3⟩)|(go_at_call 33;(with_reducible refine (CL.out _).mono ?_);rintro en w4 ⟨rfl,rfl⟩))
 have yb3:Below w.heap.size w w3:=by (repeat' first|(with_reducible first|assumption|apply bR|apply bA|apply bN|apply bD|apply bL|apply bS)|refine bT ?_ (by assumption)|go_size)
 have zB3:=zB.below hb3
 clear zB hb3 y0 y1 y2 y3 y4 y5 y6 y7 SG
 obtain ⟨y0,y1,y2,y3,y4,y5,y6,y7⟩:=zB3.cells.1
 go_cut [8] (fun s wx=>s=.string (bsOf B)∧Below w3.heap.size w3 wx)
 case first=>as_aux_lemma=>
  clear HVX HR RPs RPz k1 k2 k3 s1 s2 s3 s4 s5 s6 s7 s8 a1 SL
  by_cases c5:c=5
  ·have e:=HN5.out c5
   have q:(c==5)=true:=beq_iff_eq.2 c5
   have E:=hid e
   clear e
   go_wp2_with fail
   go_meet
   exact ⟨by rw [E.out];rfl,Below.refl _ _⟩
  ·have q:(c==5)=false:=beq_eq_false_iff_ne.2 c5
   by_cases c4:c=4
   ·have E:=hid (HI4.out c4)
    have q4:(c==4)=true:=beq_iff_eq.2 c4
    go_wp2_with fail
    go_meet
    exact ⟨by rw [E.out];rfl,Below.refl _ _⟩
   ·have q4:(c==4)=false:=beq_eq_false_iff_ne.2 c4
    have HV:=hid (HVV.out c5 c4)
    clear HVV HN5 HI4
    go_upto_region 8 with fail
    go_region_with (first
     |(go_at_call 69;(with_reducible refine (AB.out _).mono ?_);rintro en w4 ⟨rfl,rfl⟩)
     |(go_at_call 68;(with_reducible refine (HV.out _ (by (repeat' first|(with_reducible first|assumption|apply bR|apply bA|apply bN|apply bD|apply bL|apply bS)|refine bT ?_ (by assumption)|go_size))).mono ?_);rintro en w5 ⟨rfl,hb5⟩))
    all_goals
     go_wp2_with fail
     go_meet
     exact ⟨rfl,by clear yb3;first|exact hb5|exact below_trans (by exact Below.refl _ _) hb5|(repeat' first|(with_reducible first|assumption|apply bR|apply bA|apply bN|apply bD|apply bL|apply bS)|refine bT ?_ (by assumption)|go_size)⟩
 case rest=>
 obtain ⟨rfl,hbx⟩:=hcut
 obtain ⟨W5,hW5⟩: ∃W,W=wc:=⟨_,rfl⟩
 subst hW5
 have yb5:Below w.heap.size w W5:=below_trans yb3 hbx
 have zB5:=zB3.below hbx
 clear zB3 hbx y0 y1 y2 y3 y4 y5 y6 y7 CL AB HN5 HI4 HVV yb3
 obtain ⟨z0,z1,-,-,z4,-,z6,-⟩:=zB5.cells.1
 clear zB5
 go_upto_region 14 with fail
 cases mi
 ·cases ze
  ·have HE:=hid (show RR=List.replicate n 32++H++B from HR.out)
   clear HR HVX
   go_wp2_with (first
    |(go_at_call 70;(first|(with_reducible refine (RPs.out _).mono ?_)|(with_reducible refine (RPz.out _).mono ?_));rintro en w8 ⟨rfl,hb8⟩)
    |(go_at_call 47;(with_reducible refine (HVX.out _).mono ?_);rintro en w7 ⟨rfl,rfl⟩))
   go_ret2
   exact ⟨by rw [HE.out,←bs_app,←bs_app];first|rfl|(rw [←bs_app];rfl),by (repeat' first|(with_reducible first|assumption|apply bR|apply bA|apply bN|apply bD|apply bL|apply bS)|refine bT ?_ (by assumption)|go_size)⟩
  ·cases hx
   ·have HE:=hid (show RR=List.replicate n 32++H++B from HR.out)
    clear HR
    go_wp2_with (first
     |(go_at_call 70;(first|(with_reducible refine (RPs.out _).mono ?_)|(with_reducible refine (RPz.out _).mono ?_));rintro en w8 ⟨rfl,hb8⟩)
     |(go_at_call 47;(with_reducible refine (HVX.out _).mono ?_);rintro en w7 ⟨rfl,rfl⟩))
    go_ret2
    exact ⟨by rw [HE.out,←bs_app,←bs_app];first|rfl|(rw [←bs_app];rfl),by (repeat' first|(with_reducible first|assumption|apply bR|apply bA|apply bN|apply bD|apply bL|apply bS)|refine bT ?_ (by assumption)|go_size)⟩
   ·by_cases h97:verb=97
    ·have HE:=hid (show RR=H++ [48,120]++List.replicate n 48++D by rw [HR.out];simp [h97])
     have sl:=SL.out h97
     subst h97
     clear HR SL
     go_upto_region 18 with (go_at_call 47;(with_reducible refine (HVX.out _).mono ?_);rintro en w7 ⟨rfl,rfl⟩)
     go_region
     all_goals
      go_wp2_with (first
       |(go_at_call 70;(first|(with_reducible refine (RPs.out _).mono ?_)|(with_reducible refine (RPz.out _).mono ?_));rintro en w8 ⟨rfl,hb8⟩)
       |(go_at_call 47;(with_reducible refine (HVX.out _).mono ?_);rintro en w7 ⟨rfl,rfl⟩))
      go_ret2
      exact ⟨by rw [HE.out,←bs_app,←bs_app];first|rfl|(rw [←bs_app];rfl),by (repeat' first|(with_reducible first|assumption|apply bR|apply bA|apply bN|apply bD|apply bL|apply bS)|refine bT ?_ (by assumption)|go_size)⟩
    ·have HE:=hid (show RR=H++List.replicate n 48++B by rw [HR.out];simp [h97])
     have q:(verb==97)=false:=beq_eq_false_iff_ne.2 h97
     clear HR SL h97
     go_wp2_with (first
      |(go_at_call 70;(first|(with_reducible refine (RPs.out _).mono ?_)|(with_reducible refine (RPz.out _).mono ?_));rintro en w8 ⟨rfl,hb8⟩)
      |(go_at_call 47;(with_reducible refine (HVX.out _).mono ?_);rintro en w7 ⟨rfl,rfl⟩))
     go_ret2
     exact ⟨by rw [HE.out,←bs_app,←bs_app];first|rfl|(rw [←bs_app];rfl),by (repeat' first|(with_reducible first|assumption|apply bR|apply bA|apply bN|apply bD|apply bL|apply bS)|refine bT ?_ (by assumption)|go_size)⟩
 ·have HE:=hid (show RR=H++B++List.replicate n 32 from HR.out)
  clear HR HVX
  go_wp2_with (first
   |(go_at_call 70;(first|(with_reducible refine (RPs.out _).mono ?_)|(with_reducible refine (RPz.out _).mono ?_));rintro en w8 ⟨rfl,hb8⟩)
   |(go_at_call 47;(with_reducible refine (HVX.out _).mono ?_);rintro en w7 ⟨rfl,rfl⟩))
  go_ret2
  exact ⟨by rw [HE.out,←bs_app,←bs_app];first|rfl|(rw [←bs_app];rfl),by (repeat' first|(with_reducible first|assumption|apply bR|apply bA|apply bN|apply bD|apply bL|apply bS)|refine bT ?_ (by assumption)|go_size)⟩
end Go.Proofs.YtfphmlmgjhebjaaGreatDoor
namespace Go.Ulp
open Go.RowKit
theorem sgW_len (x:Int) (pl bl:Bool):(sgW x pl bl).length≤1:=by
 unfold sgW
 split
 ·simp
 split
 ·simp
 split<;>simp
theorem absOf_bd (x:Int):0≤absOf x∧absOf x<18446744073709551616:=by unfold absOf;omega
theorem hasVal_abs (x:Int):hasVal (absOf x)=hasVal x:=by
 unfold hasVal absOf
 rw [Int.emod_emod_of_dvd _ (Int.dvd_refl _)]
theorem hv_cls (x:Int):hasVal x=(decide (classOf x≠5)&&decide (classOf x≠4)):=by
 unfold hasVal classOf expOf fracOf
 split
 ·rename_i h
  split
  ·rw [show decide ((5:Int)≠5)=false from rfl,Bool.false_and];exact decide_eq_false (by omega)
  ·rw [show decide ((4:Int)≠4)=false from rfl,Bool.and_false];exact decide_eq_false (by omega)
 ·rename_i h
  have e:decide (x%9223372036854775808<9218868437227405312)=true:=decide_eq_true (by omega)
  rw [e]
  split
  ·rfl
  split<;>rfl
theorem dsh_lo (n:Bool) (L:List UInt8):L.length≤(dsh n L).length:=by unfold dsh;split<;>simp
theorem hfT_two (x:Int) (n:Nat) (mode:Int):2≤(hfT x n mode).length:=by
 unfold hfT hxT
 exact Nat.le_trans (by simp) (dsh_lo _ _)
theorem wvS_two (al:Bool) (pr x pd:Int):2≤(wvS 97 al pr x pd).length:=by
 unfold wvS
 rw [if_neg (by decide),if_neg (by decide),if_neg (by decide)]
 split
 ·unfold hexTx
  split
  ·simp
  split
  ·exact Nat.le_trans (by simp) (dsh_lo _ _)
  split
  ·exact Nat.le_trans (by simp) (dsh_lo _ _)
  ·exact hfT_two _ _ _
 ·unfold hexFx hxZ
  split
  ·exact Nat.le_trans (by simp) (dsh_lo _ _)
  ·exact hfT_two _ _ _
theorem alS_two (c:UInt8) (S:List UInt8) (h:2≤S.length):2≤(alS c S).length:=by
 unfold alS
 have k:=congrArg List.length (ahead_from c S)
 rw [List.length_append] at k
 split
 ·exact h
 ·rw [List.length_append,List.length_cons];omega
theorem wvT_two (al:Bool) (pr x pd:Int):2≤(wvT 97 al pr x pd).length:=by
 unfold wvT
 split
 ·exact alS_two _ _ (wvS_two al pr x pd)
 ·exact wvS_two al pr x pd
end Go.Ulp
namespace Go.Proofs.YtfphmlmgjhebjaaGreatDoor
open Go.RowKit Go.Ulp
set_option maxHeartbeats 4000000
theorem formatW_ok (verb wd pr x:Int) (mi pl bl ze al:Bool) (hok:wfO verb wd pr) (h0:0≤x) (h1:x<18446744073709551616) (pd:Int) (hd:(fv (absOf x)).1≠0→IsDec (dA (fv (absOf x))) (dB (fv (absOf x))) pd) (hpb: -1200≤pd∧pd≤1200) (w:World) (hT:Tab 1 w) (hT10:Tab10 w):
 Calls Tryz.prog 23 #[.agg #[.int .i64 verb,.bool mi,.bool pl,.bool bl,.bool ze,.bool al,.int .i64 wd,.int .i64 pr],.int .u64 x] w fun e w'=>e=.returned (.tuple #[.string (bsOf (wfT verb wd pr mi pl bl ze al x pd)),.int .i64 0])∧Below w.heap.size w w':=by
 have hok0:=hok
 obtain ⟨hvb,hwd,hp,h30⟩:=hok
 have lH:=sgW_len x pl bl
 obtain ⟨a0,a1⟩:=absOf_bd x
 have lB:=wvT_len verb al pr (absOf x) pd a0 a1 hp hd hpb
 unfold wfT
 refine formatW_all verb wd pr x hok0 h0 h1 mi pl bl ze al _ _ lH ?_ ?_ rfl w (fun h=>by unfold wfB;rw [if_pos h]) (fun h=>by unfold wfB;rw [if_neg (by omega),if_pos h]) (fun hn hi W hb=>?_)
 ·unfold wfB
  split
  ·simp
  split
  ·simp
  ·omega
 ·intro h97
  subst h97
  unfold wfB
  split
  ·simp
  split
  ·simp
  ·exact wvT_two al pr (absOf x) pd
 ·have hv:hasVal (absOf x)=true:=by rw [hasVal_abs,hv_cls,decide_eq_true hn,decide_eq_true hi];rfl
  have e:wfB verb al pr x pd=wvT verb al pr (absOf x) pd:=by unfold wfB;rw [if_neg hn,if_neg hi]
  rw [e]
  exact valueW_any verb (absOf x) hvb a0 a1 hv wd pr mi pl bl ze al hp h30 pd hd hpb W (hT.below hb) (hT10.below hb)
end Go.Proofs.YtfphmlmgjhebjaaGreatDoor
namespace Go.Ulp
open Go.RowKit
end Go.Ulp
namespace Go.Proofs.YtfphmlmgjhebjaaGreatDoor
open Go.RowKit Go.Ulp
set_option maxHeartbeats 1000000
set_option maxRecDepth 100000
end Go.Proofs.YtfphmlmgjhebjaaGreatDoor
namespace Go.Ulp
open Go.RowKit
end Go.Ulp
namespace Go.Proofs.YtfphmlmgjhebjaaGreatDoor
open Go.RowKit Go.Ulp
set_option maxHeartbeats 1000000
set_option maxRecDepth 100000
end Go.Proofs.YtfphmlmgjhebjaaGreatDoor
namespace Go.Ulp
open Go.RowKit
def Fact.dy (neg:Bool) (m:Nat) (x:Int):Fact:=⟨fun v w=> ∃am cm,v=.agg #[.bool neg,.slice am (limbs m).length cm,.int .i64 x]∧Ns .u32 w am cm (limbs m),fun _ _ _ h hb=>by
 obtain ⟨am,cm,h1,h2⟩:=h
 exact ⟨am,cm,h1,h2.below hb⟩⟩
end Go.Ulp
namespace Go.Proofs.YtfphmlmgjhebjaaGreatDoor
open Go.RowKit Go.Ulp
set_option maxHeartbeats 1000000
set_option maxRecDepth 100000
end Go.Proofs.YtfphmlmgjhebjaaGreatDoor
namespace Go.Ulp
open Go.RowKit
end Go.Ulp
namespace Go.Proofs.YtfphmlmgjhebjaaGreatDoor
open Go.RowKit Go.Ulp
set_option maxHeartbeats 1000000
set_option maxRecDepth 100000
end Go.Proofs.YtfphmlmgjhebjaaGreatDoor
namespace Go.Ulp
end Go.Ulp
namespace Go.Proofs.YtfphmlmgjhebjaaGreatDoor
open Go.RowKit Go.Ulp
set_option maxHeartbeats 1000000
set_option maxRecDepth 100000
end Go.Proofs.YtfphmlmgjhebjaaGreatDoor
namespace Go.Ulp
open Go.RowKit
end Go.Ulp
namespace Go.Proofs.YtfphmlmgjhebjaaGreatDoor
open Go.RowKit Go.Ulp
set_option maxHeartbeats 1000000
set_option maxRecDepth 100000
end Go.Proofs.YtfphmlmgjhebjaaGreatDoor
namespace Go.Ulp
open Go.RowKit
theorem QD.zero {t:TypeId} {w:World} {A T:Nat} (hA:0<A):QD t w (0,0) A T (.agg #[.bool false,.slice none 0 0,.int .i64 0]):=
 ⟨0,0,none,0,rfl,Nz.nil' _ _ (by unfold maxLen;omega),rfl,Nat.two_pow_pos A,Nat.zero_le _⟩
end Go.Ulp
namespace Go.Proofs.YtfphmlmgjhebjaaGreatDoor
open Go.RowKit Go.Ulp
set_option maxHeartbeats 1000000
set_option maxRecDepth 100000
end Go.Proofs.YtfphmlmgjhebjaaGreatDoor
namespace Go.Ulp
open Go.RowKit
end Go.Ulp
namespace Go.Proofs.YtfphmlmgjhebjaaGreatDoor
open Go.RowKit Go.Ulp
set_option maxHeartbeats 1000000
set_option maxRecDepth 100000
end Go.Proofs.YtfphmlmgjhebjaaGreatDoor
namespace Go.Ulp
open Go.RowKit
end Go.Ulp
namespace Go.Proofs.YtfphmlmgjhebjaaGreatDoor
open Go.RowKit Go.Ulp
set_option maxHeartbeats 1000000
set_option maxRecDepth 100000
theorem rMinus_any (x:Int) (h0:0≤x) (h1:x<18446744073709551616) (w:World):
 Calls Tryz.prog 51 #[.int .u64 x] w fun e w'=>e=.returned (.bool (negB x))∧w=w':=by
 go_enter Tryz.func51,Tryz.ntmps51
 go_wp2_with fail
 go_ret
 exact ⟨ret_bool rfl,rfl⟩
end Go.Proofs.YtfphmlmgjhebjaaGreatDoor
namespace Go.Ulp
open Go.RowKit
theorem AllDg.take {L:List UInt8} (h:AllDg L) (k:Nat):AllDg (L.take k):=fun b hb=>h b (List.mem_of_mem_take hb)
theorem AllDg.drop {L:List UInt8} (h:AllDg L) (k:Nat):AllDg (L.drop k):=fun b hb=>h b (List.mem_of_mem_drop hb)
end Go.Ulp
namespace Go.Proofs.YtfphmlmgjhebjaaGreatDoor
open Go.RowKit Go.Ulp
set_option maxHeartbeats 2000000
set_option maxRecDepth 100000
end Go.Proofs.YtfphmlmgjhebjaaGreatDoor
namespace Go.Ulp
open Go.RowKit
end Go.Ulp
namespace Go.Proofs.YtfphmlmgjhebjaaGreatDoor
open Go.RowKit Go.Ulp
set_option maxHeartbeats 4000000
set_option maxRecDepth 100000
end Go.Proofs.YtfphmlmgjhebjaaGreatDoor
namespace Go.Ulp
open Go.RowKit
end Go.Ulp
namespace Go.Proofs.YtfphmlmgjhebjaaGreatDoor
open Go.RowKit Go.Ulp
set_option maxHeartbeats 2000000
set_option maxRecDepth 100000
end Go.Proofs.YtfphmlmgjhebjaaGreatDoor
namespace Go.Ulp
open Go.RowKit
theorem decD_dg (n:Nat):AllDg (decD n):=by
 induction n using Nat.strongRecOn with
 |ind n ih=>
  by_cases h:n<10
  ·rw [decD_small h]
   intro b hb
   rw [List.mem_singleton] at hb;subst hb
   unfold isDg
   rw [decide_eq_true_eq,UInt8.toNat_ofNat'];omega
  ·rw [decD_big h]
   intro b hb
   rcases List.mem_append.1 hb with h1|h1
   ·exact ih (n/10) (by omega) b h1
   ·rw [List.mem_singleton] at h1;subst h1
    unfold isDg
    rw [decide_eq_true_eq,UInt8.toNat_ofNat'];omega
theorem dvl_decD (n:Nat):dvl (decD n)=n:=by
 induction n using Nat.strongRecOn with
 |ind n ih=>
  by_cases h:n<10
  ·rw [decD_small h,dvl_cons]
   show (UInt8.ofNat (48+n)).toNat-48=n
   rw [UInt8.toNat_ofNat'];omega
  ·rw [decD_big h]
   have h1:=ih (n/10) (by omega)
   unfold dvl at h1 ⊢
   rw [dvA_app,h1,dvA_cons]
   show n/10*10+((UInt8.ofNat (48+n%10)).toNat-48)=n
   rw [UInt8.toNat_ofNat'];omega
theorem trimR_same (M:List UInt8) (c:UInt8):Lib.trimRightB (M++ [c]) c=Lib.trimRightB M c:=by
 unfold Lib.trimRightB
 rw [List.reverse_append,List.reverse_singleton,List.singleton_append,List.dropWhile_cons_of_pos (by simp)]
theorem trimR_other (M:List UInt8) (b c:UInt8) (h:b≠c):Lib.trimRightB (M++ [b]) c=M++ [b]:=by
 unfold Lib.trimRightB
 rw [List.reverse_append,List.reverse_singleton,List.singleton_append,List.dropWhile_cons_of_neg (by simpa using h),List.reverse_cons,List.reverse_reverse]
def AllDP (L:List UInt8):Prop:= ∀b∈L,isDg b=true∨b=46
theorem AllDP.of {L:List UInt8} (h:AllDg L):AllDP L:=fun b hb=>.inl (h b hb)
theorem rep48_dg (n:Nat):AllDg (List.replicate n 48):=fun b hb=>by rw [List.eq_of_mem_replicate hb];rfl
theorem app_dg {A B:List UInt8} (h:AllDg A) (k:AllDg B):AllDg (A++B):=fun b hb=>by
 rcases List.mem_append.1 hb with h1|h1
 ·exact h b h1
 ·exact k b h1
theorem padz_dg (k:Nat) {L:List UInt8} (h:AllDg L):AllDg (padz k L):=app_dg (rep48_dg _) h
theorem ptd_dp (D:List UInt8) (p:Nat) (h:AllDg D):AllDP (ptd D p):=by
 have k:=padz_dg (p+1) h
 unfold ptd
 split
 ·exact .of h
 ·intro b hb
  rcases List.mem_append.1 hb with h1|h1
  ·exact .inl (k b (List.mem_of_mem_take h1))
  ·rcases List.mem_cons.1 h1 with h2|h2
   ·exact .inr h2
   ·exact .inl (k b (List.mem_of_mem_drop h2))
theorem scS_dg (x:Int) (k:Nat) (pd mode:Int) (hp:(fv x).1≠0→IsDec (dA (fv x)) (dB (fv x)) pd):AllDg (scS x k pd mode):=by
 have h:=(scS_pad x k pd mode hp).1
 rw [←h]
 exact padz_dg _ (decD_dg _)
theorem dp_no {L:List UInt8} (h:AllDP L) (c:UInt8) (hc:isDg c=false) (h46:c≠46):L.contains c=false:=by
 cases e:L.contains c
 ·rfl
 ·rcases h c (by simpa using e) with h1|h1
  ·rw [h1] at hc;cases hc
  ·exact absurd h1 h46
theorem ahead_none {c:UInt8} {L:List UInt8} (h:L.contains c=false):aheadB c L=L∧fromB c L= []:=by
 have k:=(ib_spec c L).2 h
 refine ⟨k.2,?_⟩
 have e:=ahead_from c L
 rw [k.2] at e
 exact List.append_cancel_left (e.trans (List.append_nil L).symm)
theorem ahead_app {c:UInt8} {A:List UInt8} (B:List UInt8) (h:A.contains c=false):aheadB c (A++c::B)=A∧fromB c (A++c::B)=c::B:=by
 have all: ∀b∈A,(b !=c)=true:=fun b hb=>by
  have:b≠c:=fun e=>by subst e;rw [show A.contains b=true by simpa using hb] at h;cases h
  simpa using this
 unfold aheadB fromB
 rw [List.takeWhile_append_of_pos all,List.dropWhile_append_of_pos all,List.takeWhile_cons_of_neg (by simp),List.dropWhile_cons_of_neg (by simp),List.append_nil]
 exact ⟨rfl,rfl⟩
def pwD (p:Int):List UInt8:=(if p.natAbs<10 then [48] else [])++decD p.natAbs
theorem pwrT_eq (p:Int):pwrT p=(if p<0 then 45 else 43)::pwD p:=rfl
theorem pwD_dg (p:Int):AllDg (pwD p):=by
 unfold pwD
 split
 ·exact app_dg (rep48_dg 1) (decD_dg _)
 ·exact decD_dg _
theorem pwD_val (p:Int):dvl (pwD p)=p.natAbs:=by
 unfold pwD
 split
 ·show dvl (48::decD p.natAbs)=_
  rw [dvl_cons]
  exact dvl_decD _
 ·exact dvl_decD _
theorem pwD_len (p:Int) (h: -1300≤p∧p≤1300):(pwD p).length≤10:=by
 have:=decD_len 3 p.natAbs (by omega)
 unfold pwD
 rw [List.length_append]
 split<;>simp<;>omega
theorem scT_split (x:Int) (k:Nat) (pd mode:Int) (hp:(fv x).1≠0→IsDec (dA (fv x)) (dB (fv x)) pd) (hn:negB x=false):
 aheadB 101 (scT x k pd mode)=ptd (scS x k pd mode) k∧fromB 101 (scT x k pd mode)=101::(if scP x k pd mode<0 then 45 else 43)::pwD (scP x k pd mode):=by
 have h:scT x k pd mode=ptd (scS x k pd mode) k++101::pwrT (scP x k pd mode):=by unfold scT;rw [hn];rfl
 rw [h,←pwrT_eq]
 exact ahead_app _ (dp_no (ptd_dp _ _ (scS_dg x k pd mode hp)) 101 rfl (by decide))
theorem scT_has (x:Int) (k:Nat) (pd mode:Int):(scT x k pd mode).contains 101=true:=by
 unfold scT dsh
 split<;>simp
theorem contains_app (A B:List UInt8) (c:UInt8):(A++B).contains c=(A.contains c||B.contains c):=by
 rw [Bool.eq_iff_iff];simp
theorem fxT_no (x:Int) (p:Nat) (mode:Int) (c:UInt8) (hc:isDg c=false) (h46:c≠46) (hn:negB x=false):(fxT x p mode).contains c=false:=by
 unfold fxT
 rw [hn]
 exact dp_no (ptd_dp _ _ (decD_dg _)) c hc h46
theorem scT_no (x:Int) (k:Nat) (pd mode:Int) (hp:(fv x).1≠0→IsDec (dA (fv x)) (dB (fv x)) pd) (hn:negB x=false):(scT x k pd mode).contains 112=false:=by
 have h:scT x k pd mode=ptd (scS x k pd mode) k++101::pwrT (scP x k pd mode):=by unfold scT;rw [hn];rfl
 rw [h,contains_app,dp_no (ptd_dp _ _ (scS_dg x k pd mode hp)) 112 rfl (by decide),Bool.false_or,pwrT_eq]
 have k:=dp_no (AllDP.of (pwD_dg (scP x k pd mode))) 112 rfl (by decide)
 rw [List.contains_cons,List.contains_cons,k]
 split<;>rfl
theorem trimR_pre (M:List UInt8) (c:UInt8): ∃R,M=Lib.trimRightB M c++R:=by
 unfold Lib.trimRightB
 refine ⟨(M.reverse.takeWhile (· ==c)).reverse,?_⟩
 rw [←List.reverse_append,List.takeWhile_append_dropWhile,List.reverse_reverse]
theorem wzT_no (L:List UInt8) (c:UInt8) (h:L.contains c=false):(wzT L).contains c=false:=by
 rw [←ahead_from 101 L,contains_app,Bool.or_eq_false_iff] at h
 unfold wzT wzM
 rw [contains_app,h.2,Bool.or_false]
 generalize aheadB 101 L=M at *
 split
 ·obtain ⟨R,hR⟩:=trimR_pre M 48
  have h1:(Lib.trimRightB M 48).contains c=false:=by
   have:=h.1
   rw [hR,contains_app,Bool.or_eq_false_iff] at this
   exact this.1
  unfold Lib.trimSuffix
  split
  ·generalize Lib.trimRightB M 48=S at *
   cases e:(S.take (S.length- [46].length)).contains c
   ·rfl
   ·have:c∈S:=List.mem_of_mem_take (by simpa using e)
    rw [show S.contains c=true by simpa using this] at h1
    cases h1
  ·exact h1
 ·exact h.1
theorem gnT_no (al:Bool) (x:Int) (k:Nat) (pd:Int) (hp:(fv x).1≠0→IsDec (dA (fv x)) (dB (fv x)) pd) (hn:negB x=false):(gnT al x k pd).contains 112=false:=by
 have g:(gnS x k pd).contains 112=false:=by
  unfold gnS
  split
  ·exact fxT_no _ _ _ 112 rfl (by decide) hn
  ·exact scT_no _ _ _ _ hp hn
 unfold gnT
 split
 ·exact g
 ·exact wzT_no _ _ g
theorem dsh_has (n:Bool) (L:List UInt8) (c:UInt8) (h:L.contains c=true):(dsh n L).contains c=true:=by
 unfold dsh
 split
 ·rw [List.contains_cons,h,Bool.or_true]
 ·exact h
theorem hfT_has (x:Int) (n:Nat) (mode:Int):(hfT x n mode).contains 112=true:=by
 unfold hfT hxT hxP
 apply dsh_has
 rw [List.contains_cons,List.contains_cons,List.contains_cons,contains_app,List.contains_cons]
 simp
theorem hxZ_has (g:Bool) (n:Nat):(hxZ g n).contains 112=true:=by
 unfold hxZ
 apply dsh_has
 rw [List.contains_cons,List.contains_cons,List.contains_cons,contains_app]
 simp
theorem hexTx_has (x:Int) (h5:classOf x≠5) (h4:classOf x≠4):(hexTx x).contains 112=true:=by
 unfold hexTx
 rw [if_neg h5,if_neg h4]
 split
 ·exact dsh_has _ _ _ rfl
 ·exact hfT_has _ _ _
theorem wvS_p (verb:Int) (al:Bool) (pr x pd:Int) (hvb:verb=101∨verb=102∨verb=103∨verb=97) (hp:(fv x).1≠0→IsDec (dA (fv x)) (dB (fv x)) pd) (hn:negB x=false) (h5:classOf x≠5) (h4:classOf x≠4):(wvS verb al pr x pd).contains 112=decide (verb=97):=by
 unfold wvS
 rcases hvb with rfl|rfl|rfl|rfl
 ·rw [if_neg (by decide),if_pos rfl];exact scT_no _ _ _ _ hp hn
 ·rw [if_pos rfl];exact fxT_no _ _ _ 112 rfl (by decide) hn
 ·rw [if_neg (by decide),if_neg (by decide),if_pos rfl];exact gnT_no _ _ _ _ hp hn
 ·rw [if_neg (by decide),if_neg (by decide),if_neg (by decide)]
  split
  ·exact hexTx_has x h5 h4
  ·unfold hexFx
   split
   ·exact hxZ_has _ _
   ·exact hfT_has _ _ _
def alR (S:List UInt8):List UInt8:=if S.contains 46=true then S else if S.contains 112=true then aheadB 112 S++46::fromB 112 S else aheadB 101 S++46::fromB 101 S
theorem alR_same (verb:Int) (S:List UInt8) (h:S.contains 112=decide (verb=97)):alR S=alS (if verb=97 then 112 else 101) S:=by
 unfold alR alS
 rw [h]
 by_cases hv:verb=97
 ·rw [decide_eq_true hv,if_pos hv,if_pos rfl]
 ·rw [decide_eq_false hv,if_neg hv,if_neg (show ¬false=true from fun h=>by cases h)]
end Go.Ulp
namespace Go.Proofs.YtfphmlmgjhebjaaGreatDoor
open Go.RowKit Go.Ulp
set_option maxHeartbeats 8000000
set_option maxRecDepth 100000
theorem bare_any (L:List UInt8) (w:World) (hl:L.length≤1000000):
 Calls Tryz.prog 143 #[.string (bsOf L)] w fun e w'=>e=.returned (.string (bsOf (wzT L)))∧Below w.heap.size w w':=by
 have IB:=hid (fun w=>Tryz.strings_IndexByte (bsOf L) 101 w)
 rw [bs_list] at IB
 obtain ⟨ib,hib⟩: ∃z,z=Lib.indexByte L 101:=⟨_,rfl⟩
 have hIB:Hid (∀w,Calls Tryz.prog 66 #[.string (bsOf L),.int .u8 101] w fun e w'=>e=.returned (.int .i64 ib)∧w=w'):=hid (fun w=>(IB.out w).mono (by rintro e w' ⟨rfl,rfl⟩;exact ⟨by rw [hib];rfl,rfl⟩))
 have hcut:=ib_cut 101 L
 have hnone:ib<0→aheadB 101 L=L∧fromB 101 L= []:=fun h=>by
  cases e:L.contains 101
  ·exact ahead_none e
  ·have:=(ib_spec 101 L).1 e
   rw [←hib] at this;omega
 rw [←hib] at hcut
 obtain ⟨M,hM⟩: ∃M,M=aheadB 101 L:=⟨_,rfl⟩
 obtain ⟨T,hT⟩: ∃T,T=fromB 101 L:=⟨_,rfl⟩
 have lM0:M.length≤L.length:=by rw [hM];exact ahead_len _ _
 rw [←hM] at hcut
 have hst:=slice_to (P:=Tryz.prog) Tryz.underlying9 L (M.length:Int) (by omega) (by omega)
 have hsf:=slice_from (P:=Tryz.prog) Tryz.underlying9 L (M.length:Int) (by omega) (by omega)
 rw [Int.toNat_natCast,hM,take_ahead,←hM] at hst
 rw [Int.toNat_natCast,hM,drop_ahead,←hM,←hT] at hsf
 rw [←hM,←hT] at hnone
 have CT:=hid (fun w=>Tryz.strings_Contains_one (bsOf M) 46 w)
 have hCT:Hid (∀w,Calls Tryz.prog 74 #[.string (bsOf M),.string ⟨#[46]⟩] w fun e w'=>e=.returned (.bool (M.contains 46))∧w=w'):=hid (fun w=>(CT.out w).mono (by rintro e w' ⟨rfl,rfl⟩;exact ⟨by rw [bs_list,ib_has],rfl⟩))
 obtain ⟨R,hR⟩: ∃R,R=Lib.trimRightB M 48:=⟨_,rfl⟩
 have lR:R.length≤M.length:=by rw [hR];exact trimR_len _ _
 have TS:=hid (fun w=>Tryz.strings_TrimSuffix (bsOf R) ⟨#[46]⟩ w (by rw [bs_size];omega))
 rw [bs_list] at TS
 have hTS:Hid (∀w,Calls Tryz.prog 208 #[.string (bsOf R),.string ⟨#[46]⟩] w fun e w'=>e=.returned (.string (bsOf (Lib.trimSuffix R [46])))∧w=w'):=hid (fun w=>(TS.out w).mono (by rintro e w' ⟨rfl,rfl⟩;exact ⟨rfl,rfl⟩))
 have hsz:=bs_size L
 have hres:wzT L=(if M.contains 46=true then Lib.trimSuffix R [46] else M)++T:=by unfold wzT wzM;rw [←hM,←hT,←hR]
 have HRS:=hid hres
 have HRM:=hid hR.symm
 obtain ⟨k,hk⟩: ∃k,k=M.contains 46:=⟨_,rfl⟩
 have HK:=hid hk.symm
 rw [←hk] at hCT HRS
 have lM:=hid (show M.length≤1000000 by omega)
 obtain ⟨n,hn⟩: ∃n:Int,n=(M.length:Int):=⟨_,rfl⟩
 rw [←hn] at hcut hst hsf
 have sM:(bsOf M).size≤1000000:=by rw [bs_size];omega
 have sT:(bsOf T).size≤1000000:=by
  rw [bs_size,hT];have:=congrArg List.length (ahead_from 101 L);rw [List.length_append] at this;omega
 have sR:(bsOf (Lib.trimSuffix R [46])).size≤1000000:=by
  rw [bs_size];unfold Lib.trimSuffix;split
  ·rw [List.length_take];omega
  ·omega
 have a1:=bs_app (Lib.trimSuffix R [46]) T
 have a2:=bs_app M T
 generalize Lib.trimSuffix R [46]=R2 at *
 generalize wzT L=RR at *
 obtain ⟨ln,hln⟩: ∃l:Int,l=(L.length:Int):=⟨_,rfl⟩
 rw [←hln] at hcut
 have hsz2:((bsOf L).size:Int)=ln:=by rw [hsz,hln]
 by_cases h0:ib<0
 ·as_aux_lemma=>
  obtain ⟨e1,e2⟩:=hnone h0
  clear hcut hst hsf hnone
  subst e1
  have hE:(⟨#[]⟩:ByteArray)=bsOf T:=by rw [e2];rfl
  generalize hQ:bsOf M=Q at *
  clear IB CT TS hres hk hib hM hT hR lM0 lR hsz hln hn e2 hsz2
  go_enter Tryz.func143,Tryz.ntmps143
  go_upto_region 5 with (go_at_call 66;(with_reducible refine (hIB.out _).mono ?_);rintro en w1 ⟨rfl,rfl⟩)
  subst hQ
  cases k
  ·have HF:=hid (show RR=M++T from HRS.out)
   clear HRS HRM
   go_wp2_with (go_at_call 74;(with_reducible refine (hCT.out _).mono ?_);rintro en w1 ⟨rfl,rfl⟩)
   go_ret
   exact ⟨by rw [HF.out];first|rfl|(rw [a2];rfl),by (repeat' first|(with_reducible first|assumption|apply bR|apply bA|apply bN|apply bD|apply bL|apply bS)|refine bT ?_ (by assumption)|go_size)⟩
  ·have HF:=hid (show RR=R2++T from HRS.out)
   clear HRS
   go_wp2_with (go_at_call 74;(with_reducible refine (hCT.out _).mono ?_);rintro en w1 ⟨rfl,rfl⟩)
   go_loopw [0] (fun s0 wr=> ∃N:List UInt8,s0=.string (bsOf N)∧N.length≤1000000∧N.contains 46=true∧Lib.trimRightB N 48=R∧Below w.heap.size w wr) (fun s0 _=>match s0 with| .string q=>q.size|_=>0)
   case atStart=>exact ⟨M,rfl,lM.out,HK.out,HRM.out,by (repeat' first|(with_reducible first|assumption|apply bR|apply bA|apply bN|apply bD|apply bL|apply bS)|refine bT ?_ (by assumption)|go_size)⟩
   case round=>
    obtain ⟨N,rfl,lN,hc,hr,yr⟩:=hrel
    rcases List.eq_nil_or_concat N with e|⟨N',b,e⟩
    ·subst e;simp at hc
    ·rw [List.concat_eq_append] at e
     subst e
     rw [List.length_append,List.length_singleton] at lN
     have hix:=run_index (P:=Tryz.prog) Tryz.underlying9 (N'++ [b]) N'.length b [] (by rw [List.drop_left])
     have hst:=slice_to (P:=Tryz.prog) Tryz.underlying9 (N'++ [b]) (N'.length:Int) (by omega) (by rw [List.length_append];omega)
     rw [Int.toNat_natCast,List.take_left] at hst
     obtain ⟨j,hj⟩: ∃j:Int,j=(N'.length:Int):=⟨_,rfl⟩
     obtain ⟨m,hm⟩: ∃m:Int,m=j+1:=⟨_,rfl⟩
     have hsz:((bsOf (N'++ [b])).size:Int)=m:=by rw [bs_size,List.length_append,hm,hj];rfl
     have hw:IntKind.i64.wrap (m-1)=j:=by rw [IntWalk.i64_in _ (by omega)];omega
     clear hm
     rw [←hj] at hix hst
     have HM:=hid (show (bsOf N').size<(bsOf (N'++ [b])).size by rw [bs_size,bs_size,List.length_append];simp)
     obtain ⟨Q,hQ⟩: ∃Q,Q=bsOf (N'++ [b]):=⟨_,rfl⟩
     rw [←hQ] at hix hst hsz HM ⊢
     by_cases hb:b=48
     ·have q1:((b.toNat:Int)==48)=true:=by rw [hb];rfl
      have K1:=hid (show N'.contains 46=true by rw [contains_app,hb] at hc;simpa using hc)
      have K2:=hid (show Lib.trimRightB N' 48=R by rw [←hr,hb,trimR_same])
      obtain ⟨x,hx⟩: ∃x:Int,x=(b.toNat:Int):=⟨_,rfl⟩
      rw [←hx] at q1 hix
      have lN2:=hid (show N'.length≤1000000 by omega)
      have x48:x=48:=by simpa using q1
      subst x48
      clear hb hQ hx hc hr hj lN q1
      go_wp2_with fail
      go_roundw
      case rel=>exact ⟨N',by first|rfl|trivial,lN2.out,K1.out,K2.out,by (repeat' first|(with_reducible first|assumption|apply bR|apply bA|apply bN|apply bD|apply bL|apply bS)|refine bT ?_ (by assumption)|go_size)⟩
      case measure=>exact HM.out
     ·have q1:((b.toNat:Int)==48)=false:=beq_eq_false_iff_ne.2 (fun e=>hb (UInt8.toNat_inj.1 (show b.toNat=(48:UInt8).toNat from by show b.toNat=48;omega)))
      rw [trimR_other _ _ _ hb] at hr
      rw [hr] at hQ
      obtain ⟨x,hx⟩: ∃x:Int,x=(b.toNat:Int):=⟨_,rfl⟩
      rw [←hx] at q1 hix
      have hT2:Hid (∀w,Calls Tryz.prog 208 #[.string Q,.string ⟨#[46]⟩] w fun e w'=>e=.returned (.string (bsOf R2))∧w=w'):=hid (hQ▸hTS.out)
      have q2: ¬x=48:=by simpa using q1
      clear hb hQ hx hc hj lN q1 hst HM hr
      go_wp2_with (go_at_call 208;(with_reducible refine (hT2.out _).mono ?_);rintro en w1 ⟨rfl,rfl⟩)
      go_ret
      exact ⟨by rw [HF.out];first|rfl|(rw [a1];rfl),by (repeat' first|(with_reducible first|assumption|apply bR|apply bA|apply bN|apply bD|apply bL|apply bS)|refine bT ?_ (by assumption)|go_size)⟩
 ·as_aux_lemma=>
  rw [if_neg h0] at hcut
  subst hcut
  generalize hQ:bsOf L=Q at *
  clear IB CT TS hres hk hib hM hT hR lM0 lR hsz hln hn hQ hnone
  go_enter Tryz.func143,Tryz.ntmps143
  go_upto_region 4 with (go_at_call 66;(with_reducible refine (hIB.out _).mono ?_);rintro en w1 ⟨rfl,rfl⟩)
  go_region
  cases k
  ·have HF:=hid (show RR=M++T from HRS.out)
   clear HRS HRM
   go_wp2_with (go_at_call 74;(with_reducible refine (hCT.out _).mono ?_);rintro en w1 ⟨rfl,rfl⟩)
   go_ret
   exact ⟨by rw [HF.out];first|rfl|(rw [a2];rfl),by (repeat' first|(with_reducible first|assumption|apply bR|apply bA|apply bN|apply bD|apply bL|apply bS)|refine bT ?_ (by assumption)|go_size)⟩
  ·have HF:=hid (show RR=R2++T from HRS.out)
   clear HRS
   go_wp2_with (go_at_call 74;(with_reducible refine (hCT.out _).mono ?_);rintro en w1 ⟨rfl,rfl⟩)
   go_loopw [0] (fun s0 wr=> ∃N:List UInt8,s0=.string (bsOf N)∧N.length≤1000000∧N.contains 46=true∧Lib.trimRightB N 48=R∧Below w.heap.size w wr) (fun s0 _=>match s0 with| .string q=>q.size|_=>0)
   case atStart=>exact ⟨M,rfl,lM.out,HK.out,HRM.out,by (repeat' first|(with_reducible first|assumption|apply bR|apply bA|apply bN|apply bD|apply bL|apply bS)|refine bT ?_ (by assumption)|go_size)⟩
   case round=>
    obtain ⟨N,rfl,lN,hc,hr,yr⟩:=hrel
    rcases List.eq_nil_or_concat N with e|⟨N',b,e⟩
    ·subst e;simp at hc
    ·rw [List.concat_eq_append] at e
     subst e
     rw [List.length_append,List.length_singleton] at lN
     have hix:=run_index (P:=Tryz.prog) Tryz.underlying9 (N'++ [b]) N'.length b [] (by rw [List.drop_left])
     have hst:=slice_to (P:=Tryz.prog) Tryz.underlying9 (N'++ [b]) (N'.length:Int) (by omega) (by rw [List.length_append];omega)
     rw [Int.toNat_natCast,List.take_left] at hst
     obtain ⟨j,hj⟩: ∃j:Int,j=(N'.length:Int):=⟨_,rfl⟩
     obtain ⟨m,hm⟩: ∃m:Int,m=j+1:=⟨_,rfl⟩
     have hsz:((bsOf (N'++ [b])).size:Int)=m:=by rw [bs_size,List.length_append,hm,hj];rfl
     have hw:IntKind.i64.wrap (m-1)=j:=by rw [IntWalk.i64_in _ (by omega)];omega
     clear hm
     rw [←hj] at hix hst
     have HM:=hid (show (bsOf N').size<(bsOf (N'++ [b])).size by rw [bs_size,bs_size,List.length_append];simp)
     obtain ⟨Q,hQ⟩: ∃Q,Q=bsOf (N'++ [b]):=⟨_,rfl⟩
     rw [←hQ] at hix hst hsz HM ⊢
     by_cases hb:b=48
     ·have q1:((b.toNat:Int)==48)=true:=by rw [hb];rfl
      have K1:=hid (show N'.contains 46=true by rw [contains_app,hb] at hc;simpa using hc)
      have K2:=hid (show Lib.trimRightB N' 48=R by rw [←hr,hb,trimR_same])
      obtain ⟨x,hx⟩: ∃x:Int,x=(b.toNat:Int):=⟨_,rfl⟩
      rw [←hx] at q1 hix
      have lN2:=hid (show N'.length≤1000000 by omega)
      have x48:x=48:=by simpa using q1
      subst x48
      clear hb hQ hx hc hr hj lN q1
      go_wp2_with fail
      go_roundw
      case rel=>exact ⟨N',by first|rfl|trivial,lN2.out,K1.out,K2.out,by (repeat' first|(with_reducible first|assumption|apply bR|apply bA|apply bN|apply bD|apply bL|apply bS)|refine bT ?_ (by assumption)|go_size)⟩
      case measure=>exact HM.out
     ·have q1:((b.toNat:Int)==48)=false:=beq_eq_false_iff_ne.2 (fun e=>hb (UInt8.toNat_inj.1 (show b.toNat=(48:UInt8).toNat from by show b.toNat=48;omega)))
      rw [trimR_other _ _ _ hb] at hr
      rw [hr] at hQ
      obtain ⟨x,hx⟩: ∃x:Int,x=(b.toNat:Int):=⟨_,rfl⟩
      rw [←hx] at q1 hix
      have hT2:Hid (∀w,Calls Tryz.prog 208 #[.string Q,.string ⟨#[46]⟩] w fun e w'=>e=.returned (.string (bsOf R2))∧w=w'):=hid (hQ▸hTS.out)
      have q2: ¬x=48:=by simpa using q1
      clear hb hQ hx hc hj lN q1 hst HM hr
      go_wp2_with (go_at_call 208;(with_reducible refine (hT2.out _).mono ?_);rintro en w1 ⟨rfl,rfl⟩)
      go_ret
      exact ⟨by rw [HF.out];first|rfl|(rw [a1];rfl),by (repeat' first|(with_reducible first|assumption|apply bR|apply bA|apply bN|apply bD|apply bL|apply bS)|refine bT ?_ (by assumption)|go_size)⟩
end Go.Proofs.YtfphmlmgjhebjaaGreatDoor
namespace Go.Ulp
open Go.RowKit
theorem ix_cut (c:UInt8) (S:List UInt8):(Lib.indexByte S c<0→S.contains c=false∧aheadB c S=S∧fromB c S= [])∧(¬Lib.indexByte S c<0→S.contains c=true∧Lib.indexByte S c=((aheadB c S).length:Int)):=by
 obtain ⟨a,b⟩:=ib_spec c S
 cases h:S.contains c
 ·exact ⟨fun _=>⟨rfl,ahead_none h⟩,fun h9=>absurd ((b h).1▸(by decide:(-1:Int)<0)) h9⟩
 ·exact ⟨fun h9=>by rw [a h] at h9;omega,fun _=>⟨rfl,a h⟩⟩
theorem slice_at {P:Program} {t:TypeId} (ht:P.underlying t=some .string) (S:List UInt8) (c:UInt8) (h: ¬Lib.indexByte S c<0):
 (∀w,(Instr.slice t (.string (bsOf S)) none (some (.int .i64 (Lib.indexByte S c))) none).run P w=.ok (.string (bsOf (aheadB c S))) w)∧(∀w,(Instr.slice t (.string (bsOf S)) (some (.int .i64 (Lib.indexByte S c))) none none).run P w=.ok (.string (bsOf (fromB c S))) w):=by
 have e:=((ix_cut c S).2 h).2
 have l:=ahead_len c S
 rw [e]
 have a:=slice_to (P:=P) ht S ((aheadB c S).length:Int) (by omega) (by omega)
 have b:=slice_from (P:=P) ht S ((aheadB c S).length:Int) (by omega) (by omega)
 rw [Int.toNat_natCast,take_ahead] at a
 rw [Int.toNat_natCast,drop_ahead] at b
 exact ⟨a,b⟩
theorem alR_cut (S:List UInt8) (h:S.contains 46=false) (A2 B2:List UInt8) (h2:(A2,B2)=if Lib.indexByte S 112<0 then (aheadB 101 S,fromB 101 S) else (aheadB 112 S,fromB 112 S)):alR S=A2++46::B2:=by
 unfold alR
 rw [h,if_neg (show ¬false=true from fun e=>by cases e)]
 by_cases hi:Lib.indexByte S 112<0
 ·rw [if_pos hi] at h2
  rw [((ix_cut 112 S).1 hi).1,if_neg (show ¬false=true from fun e=>by cases e)]
  injection h2 with a b;rw [a,b]
 ·rw [if_neg hi] at h2
  rw [((ix_cut 112 S).2 hi).1,if_pos rfl]
  injection h2 with a b;rw [a,b]
end Go.Ulp
namespace Go.Proofs.YtfphmlmgjhebjaaGreatDoor
open Go.RowKit Go.Ulp
set_option maxHeartbeats 16000000
set_option maxRecDepth 100000
theorem bodyW_f (x:Int) (h0:0≤x) (h1:x<18446744073709551616) (hv:hasVal x=true) (wd pr:Int) (mi pl bl ze al:Bool) (hp: -1≤pr∧pr≤100) (S:List UInt8) (hS:S=fxT x (wvP pr) 0) (w:World):
 Calls Tryz.prog 77 #[.agg #[.int .i64 102,.bool mi,.bool pl,.bool bl,.bool ze,.bool al,.int .i64 wd,.int .i64 pr],.int .u64 x] w fun e w'=>e=.returned (.string (bsOf (if al=true then alR S else S)))∧Below w.heap.size w w':=by
 obtain ⟨p,hpp⟩: ∃p,p=wvP pr:=⟨_,rfl⟩
 rw [←hpp] at hS
 have hpi:(p:Int)=if pr<0 then 6 else pr:=by rw [hpp];unfold wvP;split<;>omega
 have FX:=hid (fun W=>fixedText_any x 0 p h0 h1 (by omega) (by omega) (by omega) W)
 have lS:S.length≤100000:=by rw [hS];have:=fxT_len x 0 p h0 h1 (by omega);omega
 rw [←hS] at FX
 obtain ⟨RR,hRR⟩: ∃r,r=if al=true then alR S else S:=⟨_,rfl⟩
 rw [←hRR]
 have HR:=hid hRR
 clear hS hpp h0 h1 hv hRR
 have zB:V8 (w.alloc (.cells #[.int .i64 102,.bool mi,.bool pl,.bool bl,.bool ze,.bool al,.int .i64 wd,.int .i64 pr] 50)) w.heap.size #[.int .i64 102,.bool mi,.bool pl,.bool bl,.bool ze,.bool al,.int .i64 wd,.int .i64 pr]:=V8.made rfl
 obtain ⟨⟨y0,-,-,-,-,-,-,y7⟩,-⟩:=zB.cells
 obtain ⟨dP,hdP⟩: ∃z:Int,z=if pr= -1 then 6 else pr:=⟨_,rfl⟩
 have hpd:(p:Int)=dP:=by rw [hpi,hdP];split<;>split<;>omega
 rw [hpd] at FX
 have HDP:=hid hdP
 clear hpi hpd hdP
 go_enter Tryz.func77,Tryz.ntmps77
 go_upto_if 17 with fail
 go_cut [5] (fun s5 wx=>s5=.int .i64 dP∧wx=w.alloc (.cells #[.int .i64 102,.bool mi,.bool pl,.bool bl,.bool ze,.bool al,.int .i64 wd,.int .i64 pr] 50))
 case first=>
  clear FX
  by_cases hm:pr= -1
  ·have h9:=HDP.out
   rw [if_pos hm] at h9
   subst h9
   subst hm
   clear HDP
   go_wp2_with fail
   go_meet
   exact ⟨rfl,rfl⟩
  ·have h9:=HDP.out
   rw [if_neg hm] at h9
   subst h9
   clear HDP
   go_wp2_with fail
   go_meet
   exact ⟨rfl,rfl⟩
 case rest=>
 obtain ⟨rfl,rfl⟩:=hcut
 go_upto_region 30 with (go_at_call 136;(with_reducible refine (FX.out _).mono ?_);rintro en w5 ⟨rfl,hb5⟩)
 have yb5:Below w.heap.size w w5:=by (repeat' first|(with_reducible first|assumption|apply bR|apply bA|apply bN|apply bD|apply bL|apply bS)|refine bT ?_ (by assumption)|go_size)
 obtain ⟨⟨z0,-,-,-,-,z5,-,-⟩,-⟩:=(zB.below hb5).cells
 clear zB hb5 FX y0 y7 HDP
 have IB1:=hid (fun w=>Tryz.strings_Index_one (bsOf S) 101 w)
 have IB2:=hid (fun w=>Tryz.strings_Index_one (bsOf S) 112 w)
 rw [bs_list] at IB1 IB2
 have SA1:=hid (slice_at (P:=Tryz.prog) Tryz.underlying9 S 101)
 have SA2:=hid (slice_at (P:=Tryz.prog) Tryz.underlying9 S 112)
 have N1:=hid ((ix_cut 101 S).1)
 have AC:=hid (alR_cut S)
 obtain ⟨i1,hi1⟩: ∃z,z=Lib.indexByte S 101:=⟨_,rfl⟩
 obtain ⟨i2,hi2⟩: ∃z,z=Lib.indexByte S 112:=⟨_,rfl⟩
 rw [←hi1] at IB1 SA1 N1
 rw [←hi2] at IB2 SA2 AC
 have hI1:Hid (∀w,Calls Tryz.prog 135 #[.string (bsOf S),.string ⟨#[101]⟩] w fun e w'=>e=.returned (.int .i64 i1)∧w=w'):=hid (fun w=>(IB1.out w).mono (by rintro e w' ⟨rfl,rfl⟩;exact ⟨rfl,rfl⟩))
 have hI2:Hid (∀w,Calls Tryz.prog 135 #[.string (bsOf S),.string ⟨#[112]⟩] w fun e w'=>e=.returned (.int .i64 i2)∧w=w'):=hid (fun w=>(IB2.out w).mono (by rintro e w' ⟨rfl,rfl⟩;exact ⟨rfl,rfl⟩))
 have CT:=hid (fun w=>Tryz.strings_Contains_one (bsOf S) 46 w)
 have hCT:Hid (∀w,Calls Tryz.prog 74 #[.string (bsOf S),.string ⟨#[46]⟩] w fun e w'=>e=.returned (.bool (S.contains 46))∧w=w'):=hid (fun w=>(CT.out w).mono (by rintro e w' ⟨rfl,rfl⟩;exact ⟨by rw [bs_list,ib_has],rfl⟩))
 obtain ⟨A1,hA1⟩: ∃M,M=aheadB 101 S:=⟨_,rfl⟩
 obtain ⟨B1,hB1⟩: ∃M,M=fromB 101 S:=⟨_,rfl⟩
 obtain ⟨A3,hA3⟩: ∃M,M=aheadB 112 S:=⟨_,rfl⟩
 obtain ⟨B3,hB3⟩: ∃M,M=fromB 112 S:=⟨_,rfl⟩
 have l1:A1.length+B1.length=S.length:=by rw [hA1,hB1,←List.length_append,ahead_from]
 have l3:A3.length+B3.length=S.length:=by rw [hA3,hB3,←List.length_append,ahead_from]
 rw [←hA1,←hB1] at SA1 N1
 rw [←hA1,←hB1,←hA3,←hB3] at AC
 rw [←hA3,←hB3] at SA2
 have HRQ:=hid (show RR=if al=true then alR S else S from HR.out)
 have HPT:Hid (S.contains 46=true→alR S=S):=hid (fun h=>by unfold alR;rw [if_pos h])
 have L1:=hid (show A1.length+B1.length≤100000 by omega)
 have L3:=hid (show A3.length+B3.length≤100000 by omega)
 obtain ⟨pt,hpt⟩: ∃k,k=S.contains 46:=⟨_,rfl⟩
 rw [←hpt] at hCT HPT AC
 generalize alR S=AS at *
 clear IB1 IB2 hi1 hi2 CT hA1 hB1 hA3 hB3 l1 l3 lS hpt HR
 generalize hQ:bsOf S=Q at *
 cases al
 ·have HF:=hid (show RR=S from HRQ.out)
  clear HRQ HPT AC SA1 SA2 N1
  go_wp2_with fail
  go_ret
  exact ⟨by rw [HF.out,hQ];rfl,by (repeat' first|(with_reducible first|assumption|apply bR|apply bA|apply bN|apply bD|apply bL|apply bS)|refine bT ?_ (by assumption)|go_size)⟩
 ·have HF:=hid (show RR=AS from HRQ.out)
  clear HRQ
  cases pt
  ·have AC2:=hid (AC.out rfl)
   clear HPT AC
   go_wp2_with (go_at_call 74;(with_reducible refine (hCT.out _).mono ?_);rintro en w8 ⟨rfl,rfl⟩)
   have zA0:(w5.alloc (.cells #[.string ⟨#[101]⟩,.string ⟨#[112]⟩] 9)).cell? ⟨w5.heap.size,0,none⟩=some (.string ⟨#[101]⟩):=by rw [World.cell?_alloc_at (hn:=rfl)];rfl
   have zA1:(w5.alloc (.cells #[.string ⟨#[101]⟩,.string ⟨#[112]⟩] 9)).cell? ⟨w5.heap.size,1,none⟩=some (.string ⟨#[112]⟩):=by rw [World.cell?_alloc_at (hn:=rfl)];rfl
   have yA:=below_trans yb5 (below_alloc w5 (.cells #[.string ⟨#[101]⟩,.string ⟨#[112]⟩] 9))
   obtain ⟨WA,hWA⟩: ∃W,W=w5.alloc (.cells #[.string ⟨#[101]⟩,.string ⟨#[112]⟩] 9):=⟨_,rfl⟩
   rw [←hWA] at zA0 zA1 yA ⊢
   obtain ⟨gA,hgA⟩: ∃g,g=w5.heap.size:=⟨_,rfl⟩
   rw [←hgA] at zA0 zA1 ⊢
   clear hWA hgA z5 yb5
   go_loopw [9,10,117] (fun s9 s10 s117 wr=> ∃(j:Nat) (A B:List UInt8),s117=.int .i64 (j:Int)∧s9=.string (bsOf A)∧s10=.string (bsOf B)∧((j=0∧A=S∧B= [])∨(j=1∧A=A1∧B=B1)∨(j=2∧(A,B)=if i2<0 then (A1,B1) else (A3,B3)))∧Below WA.heap.size WA wr) (fun _ _ s117 _=>2-(intOf s117).toNat)
   case atStart=>exact ⟨0,S,[],rfl,by rw [hQ],rfl,.inl ⟨rfl,rfl,rfl⟩,Below.refl _ _⟩
   case round=>
    obtain ⟨j,A,B,rfl,rfl,rfl,hcase,yr⟩:=hrel
    rcases hcase with ⟨rfl,eA,eB⟩|⟨rfl,eA,eB⟩|⟨rfl,hAB⟩
    ·have q0:=(yr.cell (p:=⟨gA,0,none⟩) (World.block_lt_of_cell? _ _ zA0)).trans zA0
     by_cases hi:i1<0
     ·obtain ⟨-,e1,e2⟩:=N1.out (by omega)
      have e1:=hid e1
      have e2:=hid e2
      have eA:=hid eA
      have eB:=hid eB
      go_wp2_with (go_at_call 135;(with_reducible refine (hI1.out _).mono ?_);rintro en w9 ⟨rfl,rfl⟩)
      go_roundw
      case rel=>exact ⟨1,A1,B1,by go_num,by rw [e1.out,hQ],by rw [e2.out],.inr (.inl ⟨rfl,rfl,rfl⟩),by (repeat' first|(with_reducible first|assumption|apply bR|apply bA|apply bN|apply bD|apply bL|apply bS)|refine bT ?_ (by assumption)|go_size)⟩
      case measure=>simp [intOf]
     ·obtain ⟨sa,sb⟩:=SA1.out (by omega)
      go_upto_region 37 with (go_at_call 135;(with_reducible refine (hI1.out _).mono ?_);rintro en w9 ⟨rfl,rfl⟩)
      go_region
      go_wp2_with fail
      go_roundw
      case rel=>exact ⟨1,A1,B1,by go_num,rfl,rfl,.inr (.inl ⟨rfl,rfl,rfl⟩),by (repeat' first|(with_reducible first|assumption|apply bR|apply bA|apply bN|apply bD|apply bL|apply bS)|refine bT ?_ (by assumption)|go_size)⟩
      case measure=>simp [intOf]
    ·have q1:=(yr.cell (p:=⟨gA,1,none⟩) (World.block_lt_of_cell? _ _ zA1)).trans zA1
     have eA:=hid eA
     have eB:=hid eB
     by_cases hi:i2<0
     ·go_wp2_with (go_at_call 135;(with_reducible refine (hI2.out _).mono ?_);rintro en w9 ⟨rfl,rfl⟩)
      go_roundw
      case rel=>exact ⟨2,_,_,by go_num,rfl,rfl,.inr (.inr ⟨rfl,by rw [if_pos (by omega)]⟩),by (repeat' first|(with_reducible first|assumption|apply bR|apply bA|apply bN|apply bD|apply bL|apply bS)|refine bT ?_ (by assumption)|go_size)⟩
      case measure=>simp [intOf]
     ·obtain ⟨sa,sb⟩:=SA2.out (by omega)
      go_upto_region 37 with (go_at_call 135;(with_reducible refine (hI2.out _).mono ?_);rintro en w9 ⟨rfl,rfl⟩)
      go_region
      go_wp2_with fail
      go_roundw
      case rel=>exact ⟨2,A3,B3,by go_num,rfl,rfl,.inr (.inr ⟨rfl,by rw [if_neg (by omega)]⟩),by (repeat' first|(with_reducible first|assumption|apply bR|apply bA|apply bN|apply bD|apply bL|apply bS)|refine bT ?_ (by assumption)|go_size)⟩
      case measure=>simp [intOf]
    ·have HF2:=hid (show RR=A++46::B by rw [HF.out];exact AC2.out A B hAB)
     have lAB:A.length+B.length≤100000:=by
      by_cases hi:i2<0
      ·rw [if_pos hi] at hAB;injection hAB with a b;rw [a,b];exact L1.out
      ·rw [if_neg hi] at hAB;injection hAB with a b;rw [a,b];exact L3.out
     have sA:(bsOf A).size≤100000:=by rw [bs_size];omega
     have sB:(bsOf B).size≤100000:=by rw [bs_size];omega
     have sAp:(bsOf (A++ [46])).size≤100001:=by rw [bs_size,List.length_append];simp;omega
     have a1:bsOf A++(⟨#[46]⟩:ByteArray)=bsOf (A++ [46]):=bs_app A [46]
     have a2:bsOf (A++ [46])++bsOf B=bsOf (A++46::B):=by rw [bs_app,List.append_assoc];rfl
     clear hAB lAB AC2 SA1 SA2 N1 hI1 hI2 zA0 zA1 HF hCT
     go_wp2_with fail
     go_ret
     exact ⟨by rw [HF2.out];first|rfl|(rw [←a2,←a1];rfl),by (repeat' first|(with_reducible first|assumption|apply bR|apply bA|apply bN|apply bD|apply bL|apply bS)|refine bT ?_ (by assumption)|go_size)⟩
  ·have HF2:=hid (show RR=S by rw [HF.out];exact HPT.out rfl)
   clear HF HPT AC SA1 SA2 N1
   go_wp2_with (go_at_call 74;(with_reducible refine (hCT.out _).mono ?_);rintro en w8 ⟨rfl,rfl⟩)
   go_ret
   exact ⟨by rw [HF2.out,hQ];rfl,by (repeat' first|(with_reducible first|assumption|apply bR|apply bA|apply bN|apply bD|apply bL|apply bS)|refine bT ?_ (by assumption)|go_size)⟩
end Go.Proofs.YtfphmlmgjhebjaaGreatDoor
