/- WantedSays: what the proof leans on, part 31 (Wa22 Wa23 Frame2 Tb). -/
import Derived.WalkKit
import Derived.ReadAgain
import Derived.ChangeReads
import Derived.Lib.SmallJoins
import Derived.ChangeSlices
import Derived.OpenShut
import Derived.Test.YtfphmlmgjhebjaaGreatDoorRows
import Derived.LaidMore
import Derived.Lib.LaidTab
import Derived.LaidLaws
import Derived.SevenTiedAt
import Derived.Stop.Joined
import Derived.Test.YtfphmlmgjhebjaaGreatDoorKWantedSays2
import Derived.Test.YtfphmlmgjhebjaaGreatDoorKWantedSays13
import Derived.Test.YtfphmlmgjhebjaaGreatDoorKWantedSays30
set_option linter.unusedVariables false
set_option linter.unusedSimpArgs false
namespace Go.Ulp
open Go.RowKit
theorem ib_neg (L:List UInt8) (c:UInt8):decide (0≤Lib.indexByte L c)=!decide (Lib.indexByte L c<0):=by
 by_cases h:Lib.indexByte L c<0
 ·rw [decide_eq_true h,decide_eq_false (by omega)];rfl
 ·rw [decide_eq_false h,decide_eq_true (by omega)];rfl
theorem hp46 (c:UInt8) (r:List UInt8):Lib.hasPrefix (c::r) [46]=(c==46):=by
 by_cases h:c=46
 ·subst h;simp [Lib.hasPrefix]
 ·have e:((46:UInt8)==c)=false:=beq_eq_false_iff_ne.2 (Ne.symm h)
  rw [beq_eq_false_iff_ne.2 h]
  show ((46:UInt8)==c&&List.isPrefixOf [] r)=false
  rw [e,Bool.false_and]
theorem contains_snoc (F:List UInt8) (b c:UInt8) (x:Int) (hx:x=(b.toNat:Int)):(F++ [b]).contains c=(F.contains c||(x==(c.toNat:Int))):=by
 have e:(x==(c.toNat:Int))=(c==b):=by
  rw [hx,Bool.eq_iff_iff]
  simp only [beq_iff_eq]
  constructor
  ·intro h;exact (UInt8.toNat_inj.1 (by omega)).symm
  ·intro h;rw [h]
 rw [e,Bool.eq_iff_iff]
 simp
theorem tk_take (L:List UInt8):L.take (tkD L).length=tkD L:=by
 have h:=List.take_left (l₁:=tkD L) (l₂:=dpD L)
 rw [tk_dp] at h;exact h
theorem tk_drop (L:List UInt8):L.drop (tkD L).length=dpD L:=by
 have h:=List.drop_left (l₁:=tkD L) (l₂:=dpD L)
 rw [tk_dp] at h;exact h
end Go.Ulp
namespace Go.Proofs.YtfphmlmgjhebjaaGreatDoor
open Go.RowKit Go.Ulp
set_option maxHeartbeats 8000000
set_option maxRecDepth 100000
theorem op_store8 (ρ:Operand→Value) (i j:Nat) (ty:TypeId) (po:String) (af:Array Edge) (W:World) (g:Nat) (c0 c1 c2 c3 c4 c5 c6 c7:Value) (h:V8 W g #[c0,c1,c2,c3,c4,c5,c6,c7]) (a y z:Int) (b1 b2 b3 b4 b5:Bool)
 (e1:ρ (.tmp i)=.pointer (some ⟨g,0,none⟩)) (e2:ρ (.tmp j)=.agg #[.int .i64 a,.bool b1,.bool b2,.bool b3,.bool b4,.bool b5,.int .i64 y,.int .i64 z]):
 OpRun Tryz.prog {dst:=none,op:=Op.store 50 (.tmp i) (.tmp j),type:=ty,pos:=po,after:=af,guard:=none} ρ W fun v w'=>V8 w' g #[.int .i64 a,.bool b1,.bool b2,.bool b3,.bool b4,.bool b5,.int .i64 y,.int .i64 z]∧ ∀w0:World,Below w0.heap.size w0 W→w0.heap.size≤g→Below w0.heap.size w0 w':=by
 have HA:=hid h
 have q0:=(h 0 (by omega)).1
 have q1:=(h 1 (by omega)).1
 have q2:=(h 2 (by omega)).1
 have q3:=(h 3 (by omega)).1
 have q4:=(h 4 (by omega)).1
 have q5:=(h 5 (by omega)).1
 have q6:=(h 6 (by omega)).1
 have q7:=(h 7 (by omega)).1
 have p0:=(h 0 (by omega)).2
 have p1:=(h 1 (by omega)).2
 have p2:=(h 2 (by omega)).2
 have p3:=(h 3 (by omega)).2
 have p4:=(h 4 (by omega)).2
 have p5:=(h 5 (by omega)).2
 have p6:=(h 6 (by omega)).2
 have p7:=(h 7 (by omega)).2
 clear h
 unfold OpRun
 go_simp
 have bb: ∀w0:World,Below w0.heap.size w0 W→w0.heap.size≤g→Below w0.heap.size w0 W:=fun _ h _=>h
 clear q0 q1 q2 q3 q4 q5 q6 q7 p0 p1 p2 p3 p4 p5 p6 p7 e1 e2
 obtain ⟨W0,hW0⟩: ∃X,X=W.setCell ⟨g,0,none⟩ (.int .i64 a):=⟨_,rfl⟩
 rw [←hW0]
 have r0:V8 W0 g #[.int .i64 a,c1,c2,c3,c4,c5,c6,c7]:=by rw [hW0];exact V8.set HA.out rfl 0 (by omega) (.int .i64 a)
 have b0': ∀w0:World,Below w0.heap.size w0 W→w0.heap.size≤g→Below w0.heap.size w0 W0:=fun w0 h1 h2=>by rw [hW0];exact Below.setCell (p:=⟨g,0,none⟩) (bb w0 h1 h2) h2 _
 clear hW0
 obtain ⟨W1,hW1⟩: ∃X,X=W0.setCell ⟨g,1,none⟩ (.bool b1):=⟨_,rfl⟩
 rw [←hW1]
 have r1:V8 W1 g #[.int .i64 a,.bool b1,c2,c3,c4,c5,c6,c7]:=by rw [hW1];exact V8.set r0 rfl 1 (by omega) (.bool b1)
 have b1': ∀w0:World,Below w0.heap.size w0 W→w0.heap.size≤g→Below w0.heap.size w0 W1:=fun w0 h1 h2=>by rw [hW1];exact Below.setCell (p:=⟨g,1,none⟩) (b0' w0 h1 h2) h2 _
 clear hW1
 obtain ⟨W2,hW2⟩: ∃X,X=W1.setCell ⟨g,2,none⟩ (.bool b2):=⟨_,rfl⟩
 rw [←hW2]
 have r2:V8 W2 g #[.int .i64 a,.bool b1,.bool b2,c3,c4,c5,c6,c7]:=by rw [hW2];exact V8.set r1 rfl 2 (by omega) (.bool b2)
 have b2': ∀w0:World,Below w0.heap.size w0 W→w0.heap.size≤g→Below w0.heap.size w0 W2:=fun w0 h1 h2=>by rw [hW2];exact Below.setCell (p:=⟨g,2,none⟩) (b1' w0 h1 h2) h2 _
 clear hW2
 obtain ⟨W3,hW3⟩: ∃X,X=W2.setCell ⟨g,3,none⟩ (.bool b3):=⟨_,rfl⟩
 rw [←hW3]
 have r3:V8 W3 g #[.int .i64 a,.bool b1,.bool b2,.bool b3,c4,c5,c6,c7]:=by rw [hW3];exact V8.set r2 rfl 3 (by omega) (.bool b3)
 have b3': ∀w0:World,Below w0.heap.size w0 W→w0.heap.size≤g→Below w0.heap.size w0 W3:=fun w0 h1 h2=>by rw [hW3];exact Below.setCell (p:=⟨g,3,none⟩) (b2' w0 h1 h2) h2 _
 clear hW3
 obtain ⟨W4,hW4⟩: ∃X,X=W3.setCell ⟨g,4,none⟩ (.bool b4):=⟨_,rfl⟩
 rw [←hW4]
 have r4:V8 W4 g #[.int .i64 a,.bool b1,.bool b2,.bool b3,.bool b4,c5,c6,c7]:=by rw [hW4];exact V8.set r3 rfl 4 (by omega) (.bool b4)
 have b4': ∀w0:World,Below w0.heap.size w0 W→w0.heap.size≤g→Below w0.heap.size w0 W4:=fun w0 h1 h2=>by rw [hW4];exact Below.setCell (p:=⟨g,4,none⟩) (b3' w0 h1 h2) h2 _
 clear hW4
 obtain ⟨W5,hW5⟩: ∃X,X=W4.setCell ⟨g,5,none⟩ (.bool b5):=⟨_,rfl⟩
 rw [←hW5]
 have r5:V8 W5 g #[.int .i64 a,.bool b1,.bool b2,.bool b3,.bool b4,.bool b5,c6,c7]:=by rw [hW5];exact V8.set r4 rfl 5 (by omega) (.bool b5)
 have b5': ∀w0:World,Below w0.heap.size w0 W→w0.heap.size≤g→Below w0.heap.size w0 W5:=fun w0 h1 h2=>by rw [hW5];exact Below.setCell (p:=⟨g,5,none⟩) (b4' w0 h1 h2) h2 _
 clear hW5
 obtain ⟨W6,hW6⟩: ∃X,X=W5.setCell ⟨g,6,none⟩ (.int .i64 y):=⟨_,rfl⟩
 rw [←hW6]
 have r6:V8 W6 g #[.int .i64 a,.bool b1,.bool b2,.bool b3,.bool b4,.bool b5,.int .i64 y,c7]:=by rw [hW6];exact V8.set r5 rfl 6 (by omega) (.int .i64 y)
 have b6': ∀w0:World,Below w0.heap.size w0 W→w0.heap.size≤g→Below w0.heap.size w0 W6:=fun w0 h1 h2=>by rw [hW6];exact Below.setCell (p:=⟨g,6,none⟩) (b5' w0 h1 h2) h2 _
 clear hW6
 obtain ⟨W7,hW7⟩: ∃X,X=W6.setCell ⟨g,7,none⟩ (.int .i64 z):=⟨_,rfl⟩
 rw [←hW7]
 have r7:V8 W7 g #[.int .i64 a,.bool b1,.bool b2,.bool b3,.bool b4,.bool b5,.int .i64 y,.int .i64 z]:=by rw [hW7];exact V8.set r6 rfl 7 (by omega) (.int .i64 z)
 have b7': ∀w0:World,Below w0.heap.size w0 W→w0.heap.size≤g→Below w0.heap.size w0 W7:=fun w0 h1 h2=>by rw [hW7];exact Below.setCell (p:=⟨g,7,none⟩) (b6' w0 h1 h2) h2 _
 clear hW7
 exact ⟨r7,b7'⟩
theorem op_assign (ρ:Operand→Value) (d:Nat) (v:Value) (ty:TypeId) (po:String) (af:Array Edge) (W:World) (hc:ρ (.const v)=v):
 OpRun Tryz.prog {dst:=some d,op:=Op.assign (.const v),type:=ty,pos:=po,after:=af,guard:=none} ρ W fun u w'=>u=v∧w'=W:=by
 unfold OpRun
 go_simp
theorem specOf_none (L:List UInt8) (w:World) (h:Lib.hasPrefix L [37]=false) (hl:L.length≤9223372036854775807):
 Calls Tryz.prog 24 #[.string (bsOf L)] w fun e w'=>e=.returned (.tuple #[.agg (spV 0 [] 0 0),.int .i64 5])∧Below w.heap.size w w':=by
 have HP:=hid (fun w=>Tryz.strings_HasPrefix (bsOf L) ⟨#[37]⟩ w)
 rw [bs_list] at HP
 have hHP:Hid (∀w,Calls Tryz.prog 71 #[.string (bsOf L),.string ⟨#[37]⟩] w fun e w'=>e=.returned (.bool false)∧w=w'):=hid (fun w=>(HP.out w).mono (by rintro e w' ⟨rfl,rfl⟩;exact ⟨by rw [show (⟨#[37]⟩:ByteArray).data.toList= [37] from rfl,h],rfl⟩))
 clear HP h
 go_enter Tryz.func24,Tryz.ntmps24
 go_upto_region 2 with fail
 refine wp_worldW (fun WW=>PW w WW w.heap.size (w.heap.size+1) (spV 0 [] 0 (-1))) ⟨by (repeat' first|(with_reducible first|assumption|apply bR|apply bA|apply bN|apply bD|apply bL|apply bS)|refine bT ?_ (by assumption)|go_size),(V8.made rfl).below (below_alloc _ _),V8.made (by first|omega|(simp;done)|(simp;omega))⟩ ?_
 intro W pw
 obtain ⟨⟨z0,z1,z2,z3,z4,z5,z6,z7⟩,⟨y0,y1,y2,y3,y4,y5,y6,y7⟩⟩:=pw.2.1.cells
 have PB:=hid pw.1
 clear pw
 go_wp2_with (go_at_call 71;(with_reducible refine (hHP.out _).mono ?_);rintro en w1 ⟨rfl,rfl⟩)
 refine bodyPost_ret (by simp [results,Tryz.results24,go_sem,z0,z1,z2,z3,z4,z5,z6,z7];try rfl) rfl ?_
 exact ⟨rfl,by have:=PB.out;(repeat' first|(with_reducible first|assumption|apply bR|apply bA|apply bN|apply bD|apply bL|apply bS)|refine bT ?_ (by assumption)|go_size)⟩
theorem specOf_any (T:List UInt8) (w:World) (hl:T.length≤9223372036854775806):
 Calls Tryz.prog 24 #[.string (bsOf (37::T))] w fun e w'=>e=.returned (.tuple #[.agg (wpV 1000 (37::T)),.int .i64 (wpX 1000 (37::T))])∧Below w.heap.size w w':=by
 have HP:=hid (fun w=>Tryz.strings_HasPrefix (bsOf (37::T)) ⟨#[37]⟩ w)
 rw [bs_list] at HP
 have hHP:Hid (∀w,Calls Tryz.prog 71 #[.string (bsOf (37::T)),.string ⟨#[37]⟩] w fun e w'=>e=.returned (.bool true)∧w=w'):=hid (fun w=>(HP.out w).mono (by rintro e w' ⟨rfl,rfl⟩;exact ⟨rfl,rfl⟩))
 clear HP
 have hszL:((bsOf (37::T)).size:Int)=1+(T.length:Int):=by rw [bs_size,List.length_cons];omega
 obtain ⟨XX,hXX⟩: ∃X,X=wpX 1000 (37::T):=⟨_,rfl⟩
 obtain ⟨VV,hVV⟩: ∃X,X=wpV 1000 (37::T):=⟨_,rfl⟩
 rw [←hXX,←hVV]
 have HX:=hid hXX
 have HV:=hid hVV
 have HIX:=hid (fun (j:Nat) (b:UInt8) (r:List UInt8) (h:(37::T).drop j=b::r)=>run_index (P:=Tryz.prog) Tryz.underlying9 (37::T) j b r h)
 clear hXX hVV
 go_enter Tryz.func24,Tryz.ntmps24
 go_upto_region 2 with fail
 refine wp_worldW (fun WW=>PW w WW w.heap.size (w.heap.size+1) (spV 0 [] 0 (-1))) ⟨by (repeat' first|(with_reducible first|assumption|apply bR|apply bA|apply bN|apply bD|apply bL|apply bS)|refine bT ?_ (by assumption)|go_size),(V8.made rfl).below (below_alloc _ _),V8.made (by first|omega|(simp;done)|(simp;omega))⟩ ?_
 intro W pw
 obtain ⟨g2,hg2⟩: ∃g,g=w.heap.size:=⟨_,rfl⟩
 obtain ⟨g4,hg4⟩: ∃g,g=w.heap.size+1:=⟨_,rfl⟩
 have b2:w.heap.size≤g2:=by omega
 have b4:w.heap.size≤g4:=by omega
 have ne:g2≠g4:=by omega
 rw [←hg4,←hg2] at pw
 rw [←hg4,←hg2]
 clear hg2 hg4
 have HPW:=hid pw
 clear pw
 go_upto_block 0 with (go_at_call 71;(with_reducible refine (hHP.out _).mono ?_);rintro en w1 ⟨rfl,rfl⟩)
 go_cut [5] (fun s5 wx=> ∃(F R:List UInt8) (p:Nat),s5=.int .i64 (p:Int)∧Hid (p=1+F.length)∧Hid (T=F++R)∧Hid (∀b∈F,isMk b=true)∧Hid (R= []∨ ∃b r,R=b::r∧isMk b=false)∧PW w wx g2 g4 (spV 0 F 0 (-1)))
 case first=>as_aux_lemma=>
  go_wp2_with fail
  go_loopw [5] (fun s5 wr=> ∃(F R:List UInt8) (p:Nat),s5=.int .i64 (p:Int)∧Hid (p=1+F.length)∧Hid (T=F++R)∧Hid (∀b∈F,isMk b=true)∧PW w wr g2 g4 (spV 0 F 0 (-1))) (fun s5 _=>9223372036854775809-(intOf s5).toNat)
  case atStart=>exact ⟨[],T,1,rfl,hid rfl,hid rfl,hid (fun b hb=>by simp at hb),HPW.out⟩
  case round=>
   obtain ⟨F,R,p,rfl,HPX,HFR,HF,pw⟩:=hrel
   have hpp:=HPX.out
   clear HPW
   have lFR:=congrArg List.length HFR.out
   rw [List.length_append] at lFR
   cases hR:R with
   |nil=>as_aux_lemma=>
    have ho:R= []∨ ∃b r,R=b::r∧isMk b=false:=.inl hR
    have g1: ¬((p:Int)<1+(T.length:Int)):=by rw [hR,List.length_nil] at lFR;omega
    have HO:=hid ho
    have PQ:=hid pw
    clear hR lFR hpp ho pw
    go_wp2_with fail
    go_meet
    exact ⟨F,R,p,rfl,HPX,HFR,HF,HO,PQ.out⟩
   |cons b r=>
    have g1:(p:Int)<1+(T.length:Int):=by rw [hR,List.length_cons] at lFR;omega
    have hdr:(37::T).drop p=b::r:=by rw [hpp,Nat.add_comm,List.drop_succ_cons,HFR.out,List.drop_left,hR]
    have hix:=HIX.out p b r hdr
    have MK:=hid (fun w=>marks_any b w)
    obtain ⟨x,hx⟩: ∃x:Int,x=(b.toNat:Int):=⟨_,rfl⟩
    rw [←hx] at hix MK
    have hx255:0≤x∧x≤255:=by have:=b.toNat_lt;omega
    have wr1:IntKind.i32.wrap x=x:=IntWalk.i32_in _ (by omega)
    cases hmb:isMk b
    case true=>
     rw [hmb] at MK
     have wp1:IntKind.i64.wrap ((p:Int)+1)=(p:Int)+1:=IntWalk.i64_in _ (by omega)
     obtain ⟨Q,hQ⟩: ∃Q,Q=bsOf (37::T):=⟨_,rfl⟩
     have hszQ:(Q.size:Int)=1+(T.length:Int):=by rw [hQ,hszL]
     rw [←hQ] at hix ⊢
     have HXX:=hid hx
     have HMB:=hid hmb
     have HRR:=hid hR
     clear hpp hx hmb hR hdr hQ hszL lFR
     go_upto_region 6 with (go_at_call 72;(with_reducible refine (MK.out _).mono ?_);rintro en w1 ⟨rfl,hb1⟩)
     have pw1:=pw.below hb1
     clear pw hb1 MK
     obtain ⟨m1,hm1⟩: ∃b,b=F.contains 45:=⟨_,rfl⟩
     obtain ⟨m2,hm2⟩: ∃b,b=F.contains 43:=⟨_,rfl⟩
     obtain ⟨m3,hm3⟩: ∃b,b=F.contains 32:=⟨_,rfl⟩
     obtain ⟨m4,hm4⟩: ∃b,b=F.contains 48:=⟨_,rfl⟩
     obtain ⟨m5,hm5⟩: ∃b,b=F.contains 35:=⟨_,rfl⟩
     have hpw:PW w w1 g2 g4 #[.int .i64 0,.bool (m1),.bool (m2),.bool (m3),.bool (m4),.bool (m5),.int .i64 0,.int .i64 (-1)]:=by rw [hm1,hm2,hm3,hm4,hm5];exact pw1
     have HM1:=hid hm1
     have HM2:=hid hm2
     have HM3:=hid hm3
     have HM4:=hid hm4
     have HM5:=hid hm5
     clear pw1 hm1 hm2 hm3 hm4 hm5
     obtain ⟨V0,hV0⟩: ∃V,V=w1:=⟨_,rfl⟩
     rw [←hV0] at hpw ⊢
     clear hV0
     go_cut [] (fun wx=>PW w wx g2 g4 #[.int .i64 0,.bool (m1||(x==45)),.bool (m2),.bool (m3),.bool (m4),.bool (m5),.int .i64 0,.int .i64 (-1)])
     case first=>
      have HPX2:=hid hpw
      obtain ⟨⟨z0,z1,z2,z3,z4,z5,z6,z7⟩,⟨y0,y1,y2,y3,y4,y5,y6,y7⟩⟩:=hpw.2.2.cells
      clear hpw
      cases m1
      ·go_wp2_with fail
       go_meet
       exact HPX2.out.set (by rfl) b4 ne 1 (by omega) (.bool (x==45))
      ·go_wp2_with fail
       go_meet
       exact HPX2.out.set (by rfl) b4 ne 1 (by omega) (.bool true)
     case rest=>
     clear hpw
     obtain ⟨q1,hq1⟩: ∃b,b=(m1||(x==45)):=⟨_,rfl⟩
     have HQ1:=hid hq1
     have hpw:=hcut
     rw [←hq1] at hpw
     clear hcut hq1
     obtain ⟨V1,hV1⟩: ∃V,V=wc:=⟨_,rfl⟩
     subst hV1
     go_upto_region 7 with fail
     go_cut [] (fun wx=>PW w wx g2 g4 #[.int .i64 0,.bool (q1),.bool (m2||(x==43)),.bool (m3),.bool (m4),.bool (m5),.int .i64 0,.int .i64 (-1)])
     case first=>
      have HPX2:=hid hpw
      obtain ⟨⟨z0,z1,z2,z3,z4,z5,z6,z7⟩,⟨y0,y1,y2,y3,y4,y5,y6,y7⟩⟩:=hpw.2.2.cells
      clear hpw
      cases m2
      ·go_wp2_with fail
       go_meet
       exact HPX2.out.set (by rfl) b4 ne 2 (by omega) (.bool (x==43))
      ·go_wp2_with fail
       go_meet
       exact HPX2.out.set (by rfl) b4 ne 2 (by omega) (.bool true)
     case rest=>
     clear hpw
     obtain ⟨q2,hq2⟩: ∃b,b=(m2||(x==43)):=⟨_,rfl⟩
     have HQ2:=hid hq2
     have hpw:=hcut
     rw [←hq2] at hpw
     clear hcut hq2
     obtain ⟨V2,hV2⟩: ∃V,V=wc:=⟨_,rfl⟩
     subst hV2
     go_upto_region 8 with fail
     go_cut [] (fun wx=>PW w wx g2 g4 #[.int .i64 0,.bool (q1),.bool (q2),.bool (m3||(x==32)),.bool (m4),.bool (m5),.int .i64 0,.int .i64 (-1)])
     case first=>
      have HPX2:=hid hpw
      obtain ⟨⟨z0,z1,z2,z3,z4,z5,z6,z7⟩,⟨y0,y1,y2,y3,y4,y5,y6,y7⟩⟩:=hpw.2.2.cells
      clear hpw
      cases m3
      ·go_wp2_with fail
       go_meet
       exact HPX2.out.set (by rfl) b4 ne 3 (by omega) (.bool (x==32))
      ·go_wp2_with fail
       go_meet
       exact HPX2.out.set (by rfl) b4 ne 3 (by omega) (.bool true)
     case rest=>
     clear hpw
     obtain ⟨q3,hq3⟩: ∃b,b=(m3||(x==32)):=⟨_,rfl⟩
     have HQ3:=hid hq3
     have hpw:=hcut
     rw [←hq3] at hpw
     clear hcut hq3
     obtain ⟨V3,hV3⟩: ∃V,V=wc:=⟨_,rfl⟩
     subst hV3
     go_upto_region 9 with fail
     go_cut [] (fun wx=>PW w wx g2 g4 #[.int .i64 0,.bool (q1),.bool (q2),.bool (q3),.bool (m4||(x==48)),.bool (m5),.int .i64 0,.int .i64 (-1)])
     case first=>
      have HPX2:=hid hpw
      obtain ⟨⟨z0,z1,z2,z3,z4,z5,z6,z7⟩,⟨y0,y1,y2,y3,y4,y5,y6,y7⟩⟩:=hpw.2.2.cells
      clear hpw
      cases m4
      ·go_wp2_with fail
       go_meet
       exact HPX2.out.set (by rfl) b4 ne 4 (by omega) (.bool (x==48))
      ·go_wp2_with fail
       go_meet
       exact HPX2.out.set (by rfl) b4 ne 4 (by omega) (.bool true)
     case rest=>
     clear hpw
     obtain ⟨q4,hq4⟩: ∃b,b=(m4||(x==48)):=⟨_,rfl⟩
     have HQ4:=hid hq4
     have hpw:=hcut
     rw [←hq4] at hpw
     clear hcut hq4
     obtain ⟨V4,hV4⟩: ∃V,V=wc:=⟨_,rfl⟩
     subst hV4
     go_upto_region 10 with fail
     go_cut [] (fun wx=>PW w wx g2 g4 #[.int .i64 0,.bool (q1),.bool (q2),.bool (q3),.bool (q4),.bool (m5||(x==35)),.int .i64 0,.int .i64 (-1)])
     case first=>
      have HPX2:=hid hpw
      obtain ⟨⟨z0,z1,z2,z3,z4,z5,z6,z7⟩,⟨y0,y1,y2,y3,y4,y5,y6,y7⟩⟩:=hpw.2.2.cells
      clear hpw
      cases m5
      ·go_wp2_with fail
       go_meet
       exact HPX2.out.set (by rfl) b4 ne 5 (by omega) (.bool (x==35))
      ·go_wp2_with fail
       go_meet
       exact HPX2.out.set (by rfl) b4 ne 5 (by omega) (.bool true)
     case rest=>
     clear hpw
     obtain ⟨q5,hq5⟩: ∃b,b=(m5||(x==35)):=⟨_,rfl⟩
     have HQ5:=hid hq5
     have hpw:=hcut
     rw [←hq5] at hpw
     clear hcut hq5
     obtain ⟨V5,hV5⟩: ∃V,V=wc:=⟨_,rfl⟩
     subst hV5
     have HPZ:Hid (PW w V5 g2 g4 (spV 0 (F++ [b]) 0 (-1))):=hid (by
      unfold spV
      rw [contains_snoc F b 45 x HXX.out,contains_snoc F b 43 x HXX.out,contains_snoc F b 32 x HXX.out,contains_snoc F b 48 x HXX.out,contains_snoc F b 35 x HXX.out,←HM1.out,←HM2.out,←HM3.out,←HM4.out,←HM5.out]
      rw [HQ1.out,HQ2.out,HQ3.out,HQ4.out,HQ5.out] at hpw
      exact hpw)
     clear hpw
     go_wp2_with fail
     go_roundw
     case rel=>exact ⟨F++ [b],r,p+1,by go_num,hid (by rw [List.length_append,HPX.out];simp;omega),hid (by rw [HFR.out,HRR.out];simp),hid (fun y hy=>by rcases List.mem_append.1 hy with h|h;exact HF.out y h;rw [List.mem_singleton.1 h];exact HMB.out),HPZ.out⟩
     case measure=>simp [intOf];omega
    case false=>as_aux_lemma=>
     have ho:R= []∨ ∃b r,R=b::r∧isMk b=false:=.inr ⟨b,r,hR,hmb⟩
     rw [hmb] at MK
     clear hmb hx hdr lFR hpp
     have HO:=hid ho
     have PQ:=hid pw
     clear ho pw
     go_wp2_with (go_at_call 72;(with_reducible refine (MK.out _).mono ?_);rintro en w1 ⟨rfl,hb1⟩)
     go_meet
     exact ⟨F,R,p,rfl,HPX,HFR,HF,HO,PQ.out.below hb1⟩
 case rest=>
 obtain ⟨F,R,p,rfl,HPX,HFR,HF,HO,pw⟩:=hcut
 have ho:=HO.out
 clear HO HPW
 obtain ⟨eF,eR⟩:=wp_split HFR.out HF.out ho
 have lT:T.length=F.length+R.length:=by have:=congrArg List.length HFR.out;rw [List.length_append] at this;exact this
 have hdr:(37::T).drop (1+F.length)=R:=by rw [Nat.add_comm,List.drop_succ_cons,HFR.out,List.drop_left]
 have hL:(37::T).length=1+T.length:=by rw [List.length_cons];omega
 obtain ⟨L,hLL⟩: ∃L,L=37::T:=⟨_,rfl⟩
 rw [←hLL] at hdr hL ⊢
 have lL:L.length≤9223372036854775807:=by omega
 obtain ⟨e1,he1⟩: ∃e:Nat,e=1+F.length+(tkD R).length:=⟨_,rfl⟩
 have htk:=dp_len R
 have RN1:=hid (run_any L (1+F.length) wc (by omega) (by omega))
 rw [hdr,←he1] at RN1
 have SL1:=slice_mid (P:=Tryz.prog) Tryz.underlying9 L (1+F.length) e1 (by omega) (by omega)
 rw [hdr,show e1-(1+F.length)=(tkD R).length by omega,tk_take] at SL1
 have hd1:L.drop e1=dpD R:=by rw [he1,←List.drop_drop,hdr,tk_drop]
 rw [←HPX.out] at RN1 SL1
 obtain ⟨pt,hpt⟩: ∃b,b=wpT T:=⟨_,rfl⟩
 have hpt2:pt=Lib.hasPrefix (dpD R) [46]:=by rw [hpt];unfold wpT;rw [eR]
 have hQQ:wpQ T=(dpD R).drop 1:=by unfold wpQ;rw [eR]
 have hEE:wpE T=if pt=true then dpD (wpQ T) else dpD R:=by unfold wpE;rw [←hpt,eR]
 have hPP:wpP 1000 T=if pt=true then ((cpN 1000 (wpQ T):Nat):Int) else -1:=by unfold wpP;rw [←hpt]
 have len1:e1+(dpD R).length=L.length:=by omega
 obtain ⟨n,hn⟩: ∃n,n=L.length:=⟨_,rfl⟩
 have hsz:((bsOf L).size:Int)=(n:Int):=by rw [bs_size,hn]
 have hn9:n≤9223372036854775807:=by omega
 rw [←hn] at len1
 have HEF:=hid (And.intro eF eR)
 have VW:=hid (fun W=>specVal_any (tkD R) W (all_tk R) (by omega))
 have hcN0:(min (dvl (tkD R)) 1000:Nat)=cpN 1000 R:=rfl
 rw [hcN0] at VW
 have HTKR:=hid (show AllDg (tkD R) from all_tk R)
 obtain ⟨cN,hcN⟩: ∃c:Int,c=((cpN 1000 R:Nat):Int):=⟨_,rfl⟩
 rw [←hcN] at VW
 have HCN:=hid hcN
 have HSLD:=hid (show ∀j k,j≤k→k≤n→ ∀w,(Instr.slice 9 (.string (bsOf L)) (some (.int .i64 (j:Int))) (some (.int .i64 (k:Int))) none).run Tryz.prog w=.ok (.string (bsOf ((L.drop j).take (k-j)))) w from fun j k h1 h2 w=>slice_mid (P:=Tryz.prog) Tryz.underlying9 L j k h1 (by omega) w)
 have HRUN:=hid (show ∀j,j≤n→ ∀w,Calls Tryz.prog 73 #[.string (bsOf L),.int .i64 (j:Int)] w fun e w'=>e=.returned (.int .i64 ((j+(tkD (L.drop j)).length:Nat):Int))∧w=w' from fun j h w=>run_any L j w (by omega) (by omega))
 have HIXL:=hid (fun j b r (h:L.drop j=b::r)=>run_index (P:=Tryz.prog) Tryz.underlying9 L j b r h)
 have HSLF:=hid (show ∀j:Nat,j≤n→ ∀w,(Instr.slice 9 (.string (bsOf L)) (some (.int .i64 (j:Int))) none none).run Tryz.prog w=.ok (.string (bsOf (L.drop j))) w from fun j h w=>by
  have h9:=slice_from (P:=Tryz.prog) Tryz.underlying9 L (j:Int) (by omega) (by omega) w
  rwa [Int.toNat_natCast] at h9)
 have HDR1:=hid hd1
 have LEN1:=hid len1
 have HPT2:=hid hpt2
 have HEE:=hid hEE
 have HPP:=hid hPP
 have HQQ:=hid hQQ
 have HN9:=hid hn9
 have HLN:=hid (show ∀j,(L.drop j).length=n-j from fun j=>by rw [List.length_drop,hn])
 have TKR:=hid (show (tkD R).length≤9223372036854775806 from by omega)
 have TKQL:Hid ((tkD (wpQ T)).length≤9223372036854775806):=hid (by have:=dp_len (wpQ T);rw [hQQ] at this ⊢;rw [List.length_drop] at this;omega)
 have PWW:=hid pw
 clear pw eF eR lT hdr hL lL he1 htk hd1 hpt hpt2 hQQ hEE hPP len1 hn9 hn hLL hcN0 hcN HFR HF ho
 obtain ⟨Q,hQ⟩: ∃Q,Q=bsOf L:=⟨_,rfl⟩
 rw [←hQ] at RN1 SL1 hsz HSLD HRUN HIXL HSLF ⊢
 clear hQ
 obtain ⟨W2,hW2⟩: ∃W,W=wc:=⟨_,rfl⟩
 rw [←hW2] at RN1 PWW ⊢
 clear hW2
 go_upto_region 14 with (go_at_call 73;(with_reducible refine (RN1.out).mono ?_);rintro en w3 ⟨rfl,rfl⟩)
 go_cut [9] (fun s9 wx=>s9=.bool pt∧wx=W2)
 case first=>as_aux_lemma=>
  cases hD:dpD R with
  |nil=>
   have q:pt=false:=by rw [HPT2.out,hD];rfl
   have l:=LEN1.out
   rw [hD,List.length_nil] at l
   have g1: ¬(e1:Int)<(n:Int):=by omega
   have Q8:=hid q
   clear q l hD
   go_wp2_with fail
   go_meet
   exact ⟨by rw [Q8.out],rfl⟩
  |cons c r=>
   have q:pt=(c==46):=by rw [HPT2.out,hD,hp46]
   have l:=LEN1.out
   rw [hD,List.length_cons] at l
   have g1:(e1:Int)<(n:Int):=by omega
   have hix1:=HIXL.out e1 c r (by rw [HDR1.out,hD])
   have q2:((c.toNat:Int)==46)=(c==46):=by
    rw [Bool.eq_iff_iff]
    simp only [beq_iff_eq]
    constructor
    ·intro h;exact UInt8.toNat_inj.1 (show c.toNat=46 by omega)
    ·intro h;rw [h];rfl
   rw [←q] at q2
   obtain ⟨y,hy⟩: ∃y:Int,y=(c.toNat:Int):=⟨_,rfl⟩
   rw [←hy] at hix1 q2
   have Q8:=hid q2
   clear q l hD q2 hy
   go_wp2_with fail
   go_meet
   exact ⟨by rw [Q8.out],rfl⟩
 case rest=>
 obtain ⟨rfl,rfl⟩:=hcut
 obtain ⟨W3,hW3⟩: ∃W,W=wc:=⟨_,rfl⟩
 subst hW3
 obtain ⟨PD,hPD⟩: ∃L:List UInt8,L=if pt=true then tkD (wpQ T) else []:=⟨_,rfl⟩
 have HPD:=hid hPD
 clear hPD
 go_upto_if 92 with fail
 go_cut [6,8] (fun s6 s8 wx=> ∃e2:Nat,s6=.int .i64 (e2:Int)∧s8=.string (bsOf PD)∧Hid (L.drop e2=wpE T)∧Hid (e2≤n)∧wx=W3)
 case first=>as_aux_lemma=>
  cases pt
  ·have e9:L.drop e1=wpE T:=by rw [HDR1.out,HEE.out];rfl
   have l:=LEN1.out
   have E9:=hid e9
   have L9:=hid (show e1≤n by omega)
   clear e9 l
   go_wp2_with fail
   go_meet
   exact ⟨e1,rfl,by rw [HPD.out];rfl,E9,L9,rfl⟩
  ·have l:=LEN1.out
   have l9:=HN9.out
   have hne:dpD R≠ []:=fun h=>by have:=HPT2.out;rw [h] at this;cases this
   have l2:1≤(dpD R).length:=by
    rcases hD:dpD R with _|⟨c,r⟩
    ·exact absurd hD hne
    ·simp
   have d1:L.drop (e1+1)=wpQ T:=by rw [←List.drop_drop,HDR1.out,HQQ.out]
   have lq:=HLN.out (e1+1)
   rw [d1] at lq
   have ltk:=dp_len (wpQ T)
   obtain ⟨e2,he2⟩: ∃e:Nat,e=e1+1+(tkD (wpQ T)).length:=⟨_,rfl⟩
   have R2:=hid (HRUN.out (e1+1) (by omega) W3)
   rw [d1,←he2] at R2
   have S2:=HSLD.out (e1+1) e2 (by omega) (by omega)
   rw [d1,show e2-(e1+1)=(tkD (wpQ T)).length by omega,tk_take] at S2
   have e9:L.drop e2=wpE T:=by rw [he2,←List.drop_drop,d1,tk_drop,HEE.out];rfl
   have hPD2:tkD (wpQ T)=PD:=by rw [HPD.out];rfl
   rw [hPD2] at S2
   have w9:IntKind.i64.wrap ((e1:Int)+1)=((e1+1:Nat):Int):=by rw [IntWalk.i64_in _ (by omega)];omega
   have E9:=hid e9
   have L9:=hid (show e2≤n by omega)
   obtain ⟨f1,hf1⟩: ∃f:Nat,f=e1+1:=⟨_,rfl⟩
   rw [←hf1] at w9 R2 S2
   clear e9 l l9 hne l2 d1 lq ltk he2 hPD2 hf1
   go_wp2_with (go_at_call 73;(with_reducible refine (R2.out).mono ?_);rintro en w3 ⟨rfl,rfl⟩)
   go_meet
   exact ⟨e2,rfl,rfl,E9,L9,rfl⟩
 case rest=>
 obtain ⟨e2,rfl,rfl,HE2,HL2,rfl⟩:=hcut
 obtain ⟨W4,hW4⟩: ∃W,W=wc:=⟨_,rfl⟩
 subst hW4
 clear HSLD HRUN HDR1 LEN1 HPT2 HQQ RN1 SL1
 obtain ⟨⟨z0,z1,z2,z3,z4,z5,z6,z7⟩,⟨y0,y1,y2,y3,y4,y5,y6,y7⟩⟩:=PWW.out.2.1.cells
 obtain ⟨bd,hbd⟩: ∃b:Bool,b=match wpE T with| [v]=>!isVb v|_=>true:=⟨_,rfl⟩
 have HBD:=hid hbd
 clear hbd
 go_upto_region 19 with fail
 go_cut [114] (fun s1 wx=>s1=.bool bd∧wx=W4)
 case first=>as_aux_lemma=>
  have lE:=HLN.out e2
  rw [HE2.out] at lE
  have l2:=HL2.out
  have n9:=HN9.out
  obtain ⟨ee,hee⟩: ∃z:Int,z=IntKind.i64.wrap ((e2:Int)+1):=⟨_,rfl⟩
  have w9:IntKind.i64.wrap ((e2:Int)+1)=ee:=hee.symm
  have w9':e2<n→ee=(e2:Int)+1:=fun h=>by rw [hee,IntWalk.i64_in _ (by omega)]
  have w9'':e2=n→ee≠(n:Int):=fun h=>by
   rw [hee]
   rcases Nat.lt_or_ge n 9223372036854775807 with h1|h1
   ·rw [IntWalk.i64_in _ (by omega)];omega
   ·have:(e2:Int)+1=9223372036854775808:=by omega
    rw [this]
    have:IntKind.i64.wrap 9223372036854775808= -9223372036854775808:=by decide
    rw [this];omega
  clear hee
  have hSF:=HSLF.out e2 l2
  rw [HE2.out] at hSF
  clear HX HV HEF HCN HEE HPP HPD PWW HIXL HSLF HTKR VW TKR TKQL z0 z1 z2 z3 z4 z5 z6 z7 y0 y1 y2 y3 y4 y5 y6 y7
  cases hE:wpE T with
  |nil=>
   have hb:=HBD.out
   rw [hE] at hb
   have HB:=hid hb
   rw [hE,List.length_nil] at lE
   have q2: ¬ee=(n:Int):=w9'' (by omega)
   have q1:(ee !=(n:Int))=true:=bne_iff_ne.2 q2
   clear w9' w9''
   clear hE HBD hb lE l2 n9 hSF HE2 HL2 HLN HN9
   go_wp2_with fail
   go_meet
   exact ⟨by rw [HB.out],rfl⟩
  |cons v r=>
   cases r with
   |cons v2 r2=>
    have hb:=HBD.out
    rw [hE] at hb
    have HB:=hid hb
    rw [hE,List.length_cons,List.length_cons] at lE
    have q3:=w9' (by omega)
    have q2: ¬ee=(n:Int):=by omega
    have q1:(ee !=(n:Int))=true:=bne_iff_ne.2 q2
    clear q3 w9' w9''
    clear hE HBD hb lE l2 n9 hSF HE2 HL2 HLN HN9
    go_wp2_with fail
    go_meet
    exact ⟨by rw [HB.out],rfl⟩
   |nil=>
    have hb:=HBD.out
    rw [hE] at hb
    have HB:Hid (bd=!isVb v):=hid hb
    rw [hE] at hSF
    rw [hE,List.length_singleton] at lE
    have q3:=w9' (by omega)
    have q2:ee=(n:Int):=by omega
    subst q2
    have q1:((n:Int) !=(n:Int))=false:=by simp
    clear q3 w9' w9''
    have CT:=hid (fun w=>Tryz.strings_Contains_one ⟨#[101,102,103,97]⟩ v w)
    have hvb:=vb_index v
    rw [show (v.toNat:Int).toNat.toUInt8=v by simp] at hvb
    have hib:=ib_neg [101,102,103,97] v
    rw [hvb,Bool.not_not] at hib
    have hCT:Hid (∀w,Calls Tryz.prog 74 #[.string ⟨#[101,102,103,97]⟩,.string (bsOf [v])] w fun e w'=>e=.returned (.bool (isVb v))∧w=w'):=hid (fun w=>(CT.out w).mono (by rintro e w' ⟨rfl,rfl⟩;exact ⟨by rw [←hib],rfl⟩))
    clear hE HBD hb lE l2 n9 HE2 HL2 HLN HN9 CT hvb hib
    obtain ⟨vv,hvv⟩: ∃b,b=isVb v:=⟨_,rfl⟩
    have HB2:Hid (bd=!vv):=hid (by rw [hvv];exact HB.out)
    rw [←hvv] at hCT
    clear HB hvv
    cases vv
    all_goals
     go_wp2_with (go_at_call 74;(with_reducible refine (hCT.out _).mono ?_);rintro en w1 ⟨rfl,rfl⟩)
     all_goals
      go_meet
      first
       |exact ⟨by rw [HB2.out];rfl,rfl⟩
       |(exfalso;omega)
 case rest=>
 obtain ⟨rfl,rfl⟩:=hcut
 obtain ⟨W5,hW5⟩: ∃W,W=wc:=⟨_,rfl⟩
 subst hW5
 go_upto_if 114 with fail
 cases bd
 ·obtain ⟨v,hE,hb⟩: ∃v,wpE T= [v]∧isVb v=true:=by
   have h:=HBD.out
   match hE:wpE T with
   | []=>rw [hE] at h;cases h
   | [v]=>
     rw [hE] at h
     refine ⟨v,rfl,?_⟩
     have h2:false=!isVb v:=h
     cases hv:isVb v
     ·rw [hv] at h2;cases h2
     ·rfl
   |v1::v2::r=>rw [hE] at h;cases h
  have hx1:=wpX_one 1000 hE
  rw [←HX.out,hb,if_pos rfl,HEF.out.2] at hx1
  have hok:=fun (h:XX=0)=>wpV_ok 1000 (by rw [←HX.out];exact h) hE
  rw [HEF.out.1,HEF.out.2,←HV.out,←HCN.out] at hok
  have hbad:=fun (h:XX≠0)=>wpV_bad (T:=T) 1000 (by rw [←HX.out];exact h)
  rw [←HV.out] at hbad
  obtain ⟨pr,hpr⟩: ∃p,p=wpP 1000 T:=⟨_,rfl⟩
  rw [←hpr] at hok hx1
  have hcc:(200<cpN 1000 R)↔(200<cN):=by have:=HCN.out;omega
  simp only [hcc] at hx1
  have hix:=HIXL.out e2 v [] (by rw [HE2.out,hE])
  have hvl:=v.toNat_lt
  obtain ⟨x,hxv⟩: ∃x:Int,x=(v.toNat:Int):=⟨_,rfl⟩
  have wx9:IntKind.i64.wrap x=x:=IntWalk.i64_in _ (by omega)
  rw [←hxv] at hok hix
  have HOKV:=hid (And.intro hok hbad)
  have HX1:=hid hx1
  have TKQ:Hid (pt=true→ ∀W,Calls Tryz.prog 75 #[.string (bsOf PD)] W fun e w'=>e=.returned (.int .i64 pr)∧Below W.heap.size W w'):=hid (fun hp W=>by
   have a:=HPD.out
   have c:=HPP.out
   rw [if_pos hp] at a c
   rw [hpr,c,a]
   have ll:=TKQL.out
   exact specVal_any (tkD (wpQ T)) W (all_tk _) ll)
  have PR0:Hid (pt=false→pr= -1):=hid (fun hp=>by rw [hpr,HPP.out,if_neg (by rw [hp];decide)])
  have HIX2:=hid hix
  clear hE HX HV HEF HCN HEE HPP HPD HE2 HL2 HLN HN9 TKR HIXL HSLF HTKR hx1 hb hok hbad hcc hvl hxv hpr HBD hix z0 z1 z2 z3 z4 z5 z6 z7 y0 y1 y2 y3 y4 y5 y6 y7
  have PW5:=PWW.out
  obtain ⟨⟨z0,z1,z2,z3,z4,z5,z6,z7⟩,⟨y0,y1,y2,y3,y4,y5,y6,y7⟩⟩:=(show V8 W5 g4 #[.int .i64 0,.bool (F.contains 45),.bool (F.contains 43),.bool (F.contains 32),.bool (F.contains 48),.bool (F.contains 35),.int .i64 0,.int .i64 (-1)] from PW5.2.2).cells
  clear PW5 z0 z1 z2 z3 z4 z5 z7 y0 y1 y2 y3 y4 y5 y7
  go_upto_region 22 with fail
  go_cut [] (fun wx=>PW w wx g2 g4 (spV 0 F cN (-1)))
  case first=>
   go_wp2_with (go_at_call 75;(with_reducible refine (VW.out _).mono ?_);rintro en w6 ⟨rfl,hb6⟩;have PW6:=PWW.out.below hb6;have k6:=(PW6.2.2 6 (by omega)).1;have f6:=(PW6.2.2 6 (by omega)).2)
   go_meet
   exact PW6.set (by rfl) b4 ne 6 (by omega) (.int .i64 cN)
  case rest=>
  have PW7:=hid hcut
  clear hcut PWW z6 y6
  obtain ⟨W6,hW6⟩: ∃W,W=wc:=⟨_,rfl⟩
  subst hW6
  go_upto_if 120 with fail
  go_cut [] (fun wx=>PW w wx g2 g4 (spV 0 F cN pr))
  case first=>
   cases pt
   ·have e:=PR0.out rfl
    subst e
    go_wp2_with fail
    go_meet
    exact PW7.out
   ·have TQ:=hid (TKQ.out rfl)
    go_wp2_with (go_at_call 75;(with_reducible refine (TQ.out _).mono ?_);rintro en w6 ⟨rfl,hb6⟩;have PW6:=PW7.out.below hb6;have k7:=(PW6.2.2 7 (by omega)).1;have f7:=(PW6.2.2 7 (by omega)).2)
    go_meet
    exact PW6.set (by rfl) b4 ne 7 (by omega) (.int .i64 pr)
  case rest=>
  have PW8:=hid hcut
  clear hcut PW7
  obtain ⟨W7,hW7⟩: ∃W,W=wc:=⟨_,rfl⟩
  subst hW7
  go_upto_region 25 with fail
  go_cut [] (fun wx=>PW w wx g2 g4 (spV x F cN pr))
  case first=>
   have k0:=(PW8.out.2.2 0 (by omega)).1
   have f0:=(PW8.out.2.2 0 (by omega)).2
   have hix:=HIX2.out
   go_wp2_with fail
   go_meet
   exact PW8.out.set (by rfl) b4 ne 0 (by omega) (.int .i64 x)
  case rest=>
  have PW9:=hid hcut
  clear hcut PW8 HIX2
  obtain ⟨W8,hW8⟩: ∃W,W=wc:=⟨_,rfl⟩
  subst hW8
  have PB:=hid PW9.out.1
  have PZ:=hid (show V8 W8 g2 #[.int .i64 0,.bool false,.bool false,.bool false,.bool false,.bool false,.int .i64 0,.int .i64 0] from PW9.out.2.1)
  obtain ⟨⟨k0,k1,k2,k3,k4,k5,k6,k7⟩,-⟩:=(show V8 W8 g4 #[.int .i64 x,.bool (F.contains 45),.bool (F.contains 43),.bool (F.contains 32),.bool (F.contains 48),.bool (F.contains 35),.int .i64 cN,.int .i64 pr] from PW9.out.2.2).cells
  obtain ⟨m1,hm1⟩: ∃b,b=F.contains 45:=⟨_,rfl⟩
  obtain ⟨m2,hm2⟩: ∃b,b=F.contains 43:=⟨_,rfl⟩
  obtain ⟨m3,hm3⟩: ∃b,b=F.contains 32:=⟨_,rfl⟩
  obtain ⟨m4,hm4⟩: ∃b,b=F.contains 48:=⟨_,rfl⟩
  obtain ⟨m5,hm5⟩: ∃b,b=F.contains 35:=⟨_,rfl⟩
  have HOK2:Hid (XX=0→VV= #[.int .i64 x,.bool m1,.bool m2,.bool m3,.bool m4,.bool m5,.int .i64 cN,.int .i64 pr]):=hid (fun h=>by rw [HOKV.out.1 h];unfold spV;rw [←hm1,←hm2,←hm3,←hm4,←hm5])
  rw [←hm1] at k1
  rw [←hm2] at k2
  rw [←hm3] at k3
  rw [←hm4] at k4
  rw [←hm5] at k5
  clear TKQ PR0 PW9 VW hm1 hm2 hm3 hm4 hm5
  by_cases h1:200<cN
  ·as_aux_lemma=>
   have hx:XX=1:=by rw [HX1.out,if_pos (.inl h1)]
   have hv:VV=spV 0 [] 0 0:=HOKV.out.2 (by rw [hx];decide)
   subst hx hv
   clear HOKV HX1 HOK2
   go_upto_region 27 with fail
   clear h1 k0 k1 k2 k3 k4 k5 k6 k7
   go_step
   go_step
   go_step
   go_step
   refine wpList_plain rfl ?_
   intro Kz hKz
   refine Oper.wp_mono ?_ (OpRun.wp (op_store8 _ _ _ _ _ _ W8 g2 _ _ _ _ _ _ _ _ PZ.out 0 0 0 false false false false false rfl rfl))
   rintro a' w7 ⟨vz,rfl,hz7,hz8⟩
   obtain ⟨⟨x0,x1,x2,x3,x4,x5,x6,x7⟩,-⟩:=hz7.cells
   have PB7:=hid (hz8 w PB.out b2)
   clear hz7 hz8
   refine hKz _ _ ?_
   dsimp only [Act.put]
   clear hKz
   refine wpList_plain rfl ?_
   intro Ky hKy
   refine Oper.wp_mono ?_ (OpRun.wp (op_assign _ _ _ _ _ _ _ rfl))
   rintro a' w8 ⟨vy,rfl,rfl,rfl⟩
   refine hKy _ _ ?_
   clear hKy
   refine wpList_nil ?_
   go_step
   go_step
   go_step
   try go_step
   try go_step
   simp only [Act.put,List.setIfInBounds_toArray,List.set_cons_zero,List.set_cons_succ]
   refine bodyPost_ret (by simp [results,Tryz.results24,go_sem,x0,x1,x2,x3,x4,x5,x6,x7];try rfl) rfl ?_
   exact ⟨by first|rfl|simp [spV],by have:=PB7.out;(repeat' first|(with_reducible first|assumption|apply bR|apply bA|apply bN|apply bD|apply bL|apply bS)|refine bT ?_ (by assumption)|go_size)⟩
  ·by_cases h2:100<pr
   ·as_aux_lemma=>
    have hx:XX=1:=by rw [HX1.out,if_pos (.inr h2)]
    have hv:VV=spV 0 [] 0 0:=HOKV.out.2 (by rw [hx];decide)
    subst hx hv
    clear HOKV HX1 HOK2
    go_upto_region 27 with fail
    clear h1 h2 k0 k1 k2 k3 k4 k5 k6 k7
    go_step
    go_step
    go_step
    go_step
    refine wpList_plain rfl ?_
    intro Kz hKz
    refine Oper.wp_mono ?_ (OpRun.wp (op_store8 _ _ _ _ _ _ W8 g2 _ _ _ _ _ _ _ _ PZ.out 0 0 0 false false false false false rfl rfl))
    rintro a' w7 ⟨vz,rfl,hz7,hz8⟩
    obtain ⟨⟨x0,x1,x2,x3,x4,x5,x6,x7⟩,-⟩:=hz7.cells
    have PB7:=hid (hz8 w PB.out b2)
    clear hz7 hz8
    refine hKz _ _ ?_
    dsimp only [Act.put]
    clear hKz
    refine wpList_plain rfl ?_
    intro Ky hKy
    refine Oper.wp_mono ?_ (OpRun.wp (op_assign _ _ _ _ _ _ _ rfl))
    rintro a' w8 ⟨vy,rfl,rfl,rfl⟩
    refine hKy _ _ ?_
    clear hKy
    refine wpList_nil ?_
    go_step
    go_step
    go_step
    try go_step
    try go_step
    simp only [Act.put,List.setIfInBounds_toArray,List.set_cons_zero,List.set_cons_succ]
    refine bodyPost_ret (by simp [results,Tryz.results24,go_sem,x0,x1,x2,x3,x4,x5,x6,x7];try rfl) rfl ?_
    exact ⟨by first|rfl|simp [spV],by have:=PB7.out;(repeat' first|(with_reducible first|assumption|apply bR|apply bA|apply bN|apply bD|apply bL|apply bS)|refine bT ?_ (by assumption)|go_size)⟩
   ·as_aux_lemma=>
    have hx:XX=0:=by rw [HX1.out,if_neg (fun h=>h.elim h1 h2)]
    have hv:=HOK2.out hx
    subst hx hv
    clear HOKV HX1 HOK2
    go_upto_region 28 with fail
    go_step
    go_step
    go_step
    go_step
    refine wpList_plain rfl ?_
    intro Kz hKz
    refine Oper.wp_mono ?_ (OpRun.wp (op_store8 _ _ _ _ _ _ W8 g2 _ _ _ _ _ _ _ _ PZ.out x cN pr m1 m2 m3 m4 m5 rfl rfl))
    rintro a' w7 ⟨vz,rfl,hz7,hz8⟩
    obtain ⟨⟨x0,x1,x2,x3,x4,x5,x6,x7⟩,-⟩:=hz7.cells
    have PB7:=hid (hz8 w PB.out b2)
    clear hz7 hz8
    refine hKz _ _ ?_
    dsimp only [Act.put]
    clear hKz
    refine wpList_plain rfl ?_
    intro Ky hKy
    refine Oper.wp_mono ?_ (OpRun.wp (op_assign _ _ _ _ _ _ _ rfl))
    rintro a' w8 ⟨vy,rfl,rfl,rfl⟩
    refine hKy _ _ ?_
    clear hKy
    refine wpList_nil ?_
    go_step
    go_step
    go_step
    try go_step
    try go_step
    simp only [Act.put,List.setIfInBounds_toArray,List.set_cons_zero,List.set_cons_succ]
    refine bodyPost_ret (by simp [results,Tryz.results24,go_sem,x0,x1,x2,x3,x4,x5,x6,x7];try rfl) rfl ?_
    exact ⟨by first|rfl|simp [spV],by have:=PB7.out;(repeat' first|(with_reducible first|assumption|apply bR|apply bA|apply bN|apply bD|apply bL|apply bS)|refine bT ?_ (by assumption)|go_size)⟩
 ·have hx:XX=5:=by
   rw [HX.out]
   have h:=HBD.out
   match hE:wpE T with
   | []=>exact wpX_nil 1000 hE
   | [v]=>
     rw [hE] at h
     rw [wpX_one 1000 hE]
     have h2:true=!isVb v:=h
     cases hv:isVb v
     ·rfl
     ·rw [hv] at h2;cases h2
   |v1::v2::r=>exact wpX_two 1000 hE
  have hv:VV=spV 0 [] 0 0:=by rw [HV.out];exact wpV_bad 1000 (by rw [←HX.out,hx];decide)
  have PB:=hid PWW.out.1
  have PZ:=hid (show V8 W5 g2 #[.int .i64 0,.bool false,.bool false,.bool false,.bool false,.bool false,.int .i64 0,.int .i64 0] from PWW.out.2.1)
  subst hx hv
  clear HX HV HEF HCN HEE HPP HPD HE2 HL2 HLN HN9 TKR VW PWW HIXL HSLF HTKR HBD TKQL z0 z1 z2 z3 z4 z5 z6 z7 y0 y1 y2 y3 y4 y5 y6 y7
  go_upto_region 20 with fail
  go_step
  go_step
  go_step
  go_step
  refine wpList_plain rfl ?_
  intro Kz hKz
  refine Oper.wp_mono ?_ (OpRun.wp (op_store8 _ _ _ _ _ _ W5 g2 _ _ _ _ _ _ _ _ PZ.out 0 0 0 false false false false false rfl rfl))
  rintro a' w7 ⟨vz,rfl,hz7,hz8⟩
  obtain ⟨⟨x0,x1,x2,x3,x4,x5,x6,x7⟩,-⟩:=hz7.cells
  have PB7:=hid (hz8 w PB.out b2)
  clear hz7 hz8
  refine hKz _ _ ?_
  dsimp only [Act.put]
  clear hKz
  refine wpList_plain rfl ?_
  intro Ky hKy
  refine Oper.wp_mono ?_ (OpRun.wp (op_assign _ _ _ _ _ _ _ rfl))
  rintro a' w8 ⟨vy,rfl,rfl,rfl⟩
  refine hKy _ _ ?_
  clear hKy
  refine wpList_nil ?_
  go_step
  go_step
  go_step
  try go_step
  try go_step
  simp only [Act.put,List.setIfInBounds_toArray,List.set_cons_zero,List.set_cons_succ]
  refine bodyPost_ret (by simp [results,Tryz.results24,go_sem,x0,x1,x2,x3,x4,x5,x6,x7];try rfl) rfl ?_
  exact ⟨by first|rfl|simp [spV],by have:=PB7.out;(repeat' first|(with_reducible first|assumption|apply bR|apply bA|apply bN|apply bD|apply bL|apply bS)|refine bT ?_ (by assumption)|go_size)⟩
end Go.Proofs.YtfphmlmgjhebjaaGreatDoor
namespace Go.Ulp
open Go.RowKit
theorem wpV_open (c:Nat) (L:List UInt8): ∃(v:Int) (b1 b2 b3 b4 b5:Bool) (y z:Int),wpV c L= #[.int .i64 v,.bool b1,.bool b2,.bool b3,.bool b4,.bool b5,.int .i64 y,.int .i64 z]:=by
 unfold wpV
 split
 ·exact ⟨_,_,_,_,_,_,_,_,rfl⟩
 ·exact ⟨_,_,_,_,_,_,_,_,rfl⟩
end Go.Ulp
namespace Go.Proofs.YtfphmlmgjhebjaaGreatDoor
open Go.RowKit Go.Ulp
set_option maxHeartbeats 8000000
set_option maxRecDepth 100000
theorem specs_alike (L:List UInt8) (hl:L.length≤9223372036854775807): ∃(v:Int) (b1 b2 b3 b4 b5:Bool) (y z E:Int),
 (∀w,Calls Tryz.prog 22 #[.string (bsOf L)] w fun e w'=>e=.returned (.tuple #[.agg #[.int .i64 v,.bool b1,.bool b2,.bool b3,.bool b4,.bool b5,.int .i64 y,.int .i64 z],.int .i64 E])∧Below w.heap.size w w')∧
 (∀w,Calls Tryz.prog 24 #[.string (bsOf L)] w fun e w'=>e=.returned (.tuple #[.agg #[.int .i64 v,.bool b1,.bool b2,.bool b3,.bool b4,.bool b5,.int .i64 y,.int .i64 z],.int .i64 E])∧Below w.heap.size w w'):=by
 by_cases h:Lib.hasPrefix L [37]=true
 ·obtain ⟨T,rfl⟩: ∃T,L=37::T:=by
   match L,h with
   | [],h=>cases h
   |c::T,h=>
    have h2:((37:UInt8)==c&&List.isPrefixOf [] T)=true:=h
    rw [Bool.and_eq_true] at h2
    have:=eq_of_beq h2.1
    subst this
    exact ⟨T,rfl⟩
  rw [List.length_cons] at hl
  obtain ⟨v,b1,b2,b3,b4,b5,y,z,hV⟩:=wpV_open 1000 (37::T)
  refine ⟨v,b1,b2,b3,b4,b5,y,z,wpX 1000 (37::T),fun w=>?_,fun w=>?_⟩
  ·have h9:=wparse_any T w (by omega)
   rw [wpV_same,wpX_same,hV] at h9
   exact h9
  ·have h9:=specOf_any T w (by omega)
   rw [hV] at h9
   exact h9
 ·have hf:Lib.hasPrefix L [37]=false:=by simpa using h
  exact ⟨0,false,false,false,false,false,0,0,5,fun w=>wparse_none L w hf,fun w=>specOf_none L w hf hl⟩
theorem wantedSays_walk (s:ByteArray) (verb:Int) (mi pl bl ze al:Bool) (wd pr x:Int) (hs:s.size≤9223372036854775807) (hx:0≤x∧x<18446744073709551616) (W:World) (hT:Tab 1 W) (hT10:Tab10 W):
 Calls Tryz.prog 4 #[.string s,.agg #[.int .i64 verb,.bool mi,.bool pl,.bool bl,.bool ze,.bool al,.int .i64 wd,.int .i64 pr],.int .u64 x] W fun e w'=>e=.returned (.bool true)∧Below W.heap.size W w':=by
 obtain ⟨L,rfl⟩: ∃L,s=bsOf L:=⟨s.data.toList,rfl⟩
 rw [bs_size] at hs
 obtain ⟨v,b1,b2,b3,b4,b5,y,z,E,PA0,SP0⟩:=specs_alike L hs
 have PA:=hid PA0
 have SP:=hid SP0
 have HT:=hid hT
 have HT10:=hid hT10
 have B2:=hid (fun w=>between_any wd 0 200 w)
 have B3:=hid (fun w=>between_any pr (-1) 100 w)
 clear PA0 SP0 hT hT10 hs
 generalize bsOf L=Q at *
 obtain ⟨T1,E1,FM0,hP1,hP2⟩: ∃(T1:ByteArray) (E1:Int),(∀w,Tab 1 w→Tab10 w→Calls Tryz.prog 23 #[.agg #[.int .i64 verb,.bool mi,.bool pl,.bool bl,.bool ze,.bool al,.int .i64 wd,.int .i64 pr],.int .u64 x] w fun e w'=>e=.returned (.tuple #[.string T1,.int .i64 E1])∧Below w.heap.size w w')∧
  (wfO verb wd pr→E1=0∧ ∀w,Calls Tryz.prog 26 #[.agg #[.int .i64 verb,.bool mi,.bool pl,.bool bl,.bool ze,.bool al,.int .i64 wd,.int .i64 pr],.int .u64 x] w fun e w'=>e=.returned (.string T1)∧Below w.heap.size w w')∧(¬wfO verb wd pr→T1=⟨#[]⟩∧E1=1):=by
  by_cases hok:wfO verb wd pr
  ·obtain ⟨pd,hpd,p1,p2⟩:=dec_of (absOf x) (absOf_bd x).1 (absOf_bd x).2
   exact ⟨_,0,fun w t u=>formatW_ok verb wd pr x mi pl bl ze al hok hx.1 hx.2 pd hpd ⟨p1,p2⟩ w t u,fun _=>⟨rfl,fun w=>printed_any verb wd pr x mi pl bl ze al hok hx.1 hx.2 pd hpd ⟨p1,p2⟩ w⟩,fun h=>absurd hok h⟩
  ·exact ⟨⟨#[]⟩,1,fun w _ _=>formatW_bad verb wd pr x mi pl bl ze al w hok,fun h=>absurd h hok,fun _=>⟨rfl,rfl⟩⟩
 have FM:=hid FM0
 have HP1:=hid hP1
 have HP2:=hid hP2
 obtain ⟨vb,hvb⟩: ∃b,b=decide (verb=101∨verb=102∨verb=103∨verb=97):=⟨_,rfl⟩
 obtain ⟨bw,hbw⟩: ∃b,b=decide (0≤wd∧wd≤200):=⟨_,rfl⟩
 obtain ⟨bp,hbp⟩: ∃b,b=decide (-1≤pr∧pr≤100):=⟨_,rfl⟩
 obtain ⟨v97,hv97⟩: ∃b,b=(verb==97):=⟨_,rfl⟩
 obtain ⟨p30,hp30⟩: ∃b,b=decide (pr>30):=⟨_,rfl⟩
 have hbad:wfO verb wd pr↔(!vb||!bw||!bp||(v97&&p30))=false:=by
  rw [hvb,hbw,hbp,hv97,hp30]
  unfold wfO
  simp only [Bool.or_eq_false_iff,Bool.not_eq_false',decide_eq_true_eq,Bool.and_eq_false_iff,beq_eq_false_iff_ne,decide_eq_false_iff_not,ne_eq]
  constructor
  ·rintro ⟨a,b,c,d⟩
   refine ⟨⟨⟨a,b⟩,c⟩,?_⟩
   by_cases h:verb=97
   ·right;have:=d h;omega
   ·left;exact h
  ·rintro ⟨⟨⟨a,b⟩,c⟩,d⟩
   exact ⟨a,b,c,fun h=>by rcases d with d|d;exact absurd h d;omega⟩
 have HB:=hid hbad
 have HVB:=hid hvb
 rw [←hbw] at B2
 rw [←hbp] at B3
 clear FM0 hP1 hP2 hx hvb hbw hbp hbad
 have z4:V8 (W.alloc (.cells #[.int .i64 verb,.bool mi,.bool pl,.bool bl,.bool ze,.bool al,.int .i64 wd,.int .i64 pr] 50)) W.heap.size #[.int .i64 verb,.bool mi,.bool pl,.bool bl,.bool ze,.bool al,.int .i64 wd,.int .i64 pr]:=V8.made rfl
 go_enter Tryz.func4,Tryz.ntmps4
 go_upto_region 2 with (go_at_call 22;(with_reducible refine (PA.out _).mono ?_);rintro en w2 ⟨rfl,hb2⟩)
 have y2:Below W.heap.size W w2:=by (repeat' first|(with_reducible first|assumption|apply bR|apply bA|apply bN|apply bD|apply bL|apply bS)|refine bT ?_ (by assumption)|go_size)
 have z42:=z4.below hb2
 have x7:V8 (w2.alloc (.cells #[.int .i64 v,.bool b1,.bool b2,.bool b3,.bool b4,.bool b5,.int .i64 y,.int .i64 z] 50)) w2.heap.size #[.int .i64 v,.bool b1,.bool b2,.bool b3,.bool b4,.bool b5,.int .i64 y,.int .i64 z]:=V8.made rfl
 have y3:=below_trans y2 (below_alloc w2 (.cells #[.int .i64 v,.bool b1,.bool b2,.bool b3,.bool b4,.bool b5,.int .i64 y,.int .i64 z] 50))
 have z43:=z42.below (below_alloc w2 (.cells #[.int .i64 v,.bool b1,.bool b2,.bool b3,.bool b4,.bool b5,.int .i64 y,.int .i64 z] 50))
 obtain ⟨W3,hW3⟩: ∃X,X=w2.alloc (.cells #[.int .i64 v,.bool b1,.bool b2,.bool b3,.bool b4,.bool b5,.int .i64 y,.int .i64 z] 50):=⟨_,rfl⟩
 rw [←hW3] at x7 y3 z43 ⊢
 obtain ⟨g7,hg7⟩: ∃g,g=w2.heap.size:=⟨_,rfl⟩
 rw [←hg7] at x7 ⊢
 clear z4 z42 hb2 y2 hW3 hg7
 obtain ⟨⟨k0,k1,k2,k3,k4,k5,k6,k7⟩,-⟩:=z43.cells
 go_upto_region 3 with (go_at_call 23;(with_reducible refine (FM.out _ (HT.out.below y3) (HT10.out.below y3)).mono ?_);rintro en w4 ⟨rfl,hb4⟩)
 have y4:=below_trans y3 hb4
 have z44:=z43.below hb4
 have x74:=x7.below hb4
 clear k0 k1 k2 k3 k4 k5 k6 k7 z43 x7 y3 hb4
 go_upto_region 4 with (go_at_call 24;(with_reducible refine (SP.out _).mono ?_);rintro en w5 ⟨rfl,hb5⟩)
 have y5:=below_trans y4 hb5
 have z45:=z44.below hb5
 have x75:=x74.below hb5
 have x11:V8 (w5.alloc (.cells #[.int .i64 v,.bool b1,.bool b2,.bool b3,.bool b4,.bool b5,.int .i64 y,.int .i64 z] 50)) w5.heap.size #[.int .i64 v,.bool b1,.bool b2,.bool b3,.bool b4,.bool b5,.int .i64 y,.int .i64 z]:=V8.made rfl
 have y6:=below_trans y5 (below_alloc w5 (.cells #[.int .i64 v,.bool b1,.bool b2,.bool b3,.bool b4,.bool b5,.int .i64 y,.int .i64 z] 50))
 have z46:=z45.below (below_alloc w5 (.cells #[.int .i64 v,.bool b1,.bool b2,.bool b3,.bool b4,.bool b5,.int .i64 y,.int .i64 z] 50))
 have x76:=x75.below (below_alloc w5 (.cells #[.int .i64 v,.bool b1,.bool b2,.bool b3,.bool b4,.bool b5,.int .i64 y,.int .i64 z] 50))
 obtain ⟨W6,hW6⟩: ∃X,X=w5.alloc (.cells #[.int .i64 v,.bool b1,.bool b2,.bool b3,.bool b4,.bool b5,.int .i64 y,.int .i64 z] 50):=⟨_,rfl⟩
 rw [←hW6] at x11 y6 z46 x76 ⊢
 obtain ⟨g11,hg11⟩: ∃g,g=w5.heap.size:=⟨_,rfl⟩
 rw [←hg11] at x11 ⊢
 clear z44 z45 x74 x75 hb5 y4 y5 hW6 hg11
 have C7:=x76.cells.1
 have C11:=x11.cells.1
 obtain ⟨k0,k1,k2,k3,k4,k5,k6,k7⟩:=C7
 obtain ⟨j0,j1,j2,j3,j4,j5,j6,j7⟩:=C11
 go_upto_region 6 with fail
 clear k0 k1 k2 k3 k4 k5 k6 k7 j0 j1 j2 j3 j4 j5 j6 j7 x76 x11
 obtain ⟨⟨k0,k1,k2,k3,k4,k5,k6,k7⟩,-⟩:=z46.cells
 clear z46
 go_cut [13] (fun s wx=>s=.bool vb∧wx=W6)
 case first=>as_aux_lemma=>
  clear B2 B3 PA SP FM HP1 HP2 HB k6 k7 hv97 hp30
  by_cases c1:verb=101
  ·have e:=HVB.out
   rw [decide_eq_true (.inl c1)] at e
   subst e c1
   go_wp2_with fail
   go_meet
   exact ⟨rfl,rfl⟩
  by_cases c2:verb=102
  ·have e:=HVB.out
   rw [decide_eq_true (.inr (.inl c2))] at e
   subst e c2
   go_wp2_with fail
   go_meet
   exact ⟨rfl,rfl⟩
  by_cases c3:verb=103
  ·have e:=HVB.out
   rw [decide_eq_true (.inr (.inr (.inl c3)))] at e
   subst e c3
   go_wp2_with fail
   go_meet
   exact ⟨rfl,rfl⟩
  by_cases c4:verb=97
  ·have e:=HVB.out
   rw [decide_eq_true (.inr (.inr (.inr c4)))] at e
   subst e c4
   go_wp2_with fail
   go_meet
   exact ⟨rfl,rfl⟩
  ·have e:=HVB.out
   rw [decide_eq_false (fun h=>by omega)] at e
   subst e
   have n1:(verb==101)=false:=beq_eq_false_iff_ne.2 c1
   have n2:(verb==102)=false:=beq_eq_false_iff_ne.2 c2
   have n3:(verb==103)=false:=beq_eq_false_iff_ne.2 c3
   have n4:(verb==97)=false:=beq_eq_false_iff_ne.2 c4
   go_wp2_with fail
   go_meet
   exact ⟨rfl,rfl⟩
 case rest=>
 obtain ⟨rfl,rfl⟩:=hcut
 obtain ⟨W7,hW7⟩: ∃W,W=wc:=⟨_,rfl⟩
 subst hW7
 obtain ⟨bd,hbd⟩: ∃b,b=(!vb||!bw||!bp||(v97&&p30)):=⟨_,rfl⟩
 rw [←hbd] at HB
 have HBD:=hid hbd
 clear HVB hbd
 rename_i K hK
 refine hK _ _ ?_
 go_upto_region 7 with fail
 go_cut [79] (fun s wx=>s=.bool bd∧wx=W7)
 case first=>as_aux_lemma=>
  clear PA SP FM HP1 HP2 HB
  have g97:(verb==97)=v97:=hv97.symm
  have g30:decide (pr>30)=p30:=hp30.symm
  have g30':decide (30<pr)=p30:=hp30.symm
  clear hv97 hp30
  cases vb
  ·go_wp2_with fail
   go_meet
   exact ⟨by rw [HBD.out];rfl,rfl⟩
  ·cases bw
   ·go_wp2_with (go_at_call 25;(with_reducible refine (B2.out _).mono ?_);rintro en w8 ⟨rfl,rfl⟩)
    go_meet
    exact ⟨by rw [HBD.out];rfl,rfl⟩
   ·cases bp
    ·go_wp2_with (go_at_call 25;(first|(with_reducible refine (B2.out _).mono ?_)|(with_reducible refine (B3.out _).mono ?_));rintro en w8 ⟨rfl,rfl⟩)
     go_meet
     exact ⟨by rw [HBD.out];rfl,rfl⟩
    ·cases v97
     ·go_wp2_with (go_at_call 25;(first|(with_reducible refine (B2.out _).mono ?_)|(with_reducible refine (B3.out _).mono ?_));rintro en w8 ⟨rfl,rfl⟩)
      go_meet
      exact ⟨by rw [HBD.out];rfl,rfl⟩
     ·go_wp2_with (go_at_call 25;(first|(with_reducible refine (B2.out _).mono ?_)|(with_reducible refine (B3.out _).mono ?_));rintro en w8 ⟨rfl,rfl⟩)
      go_meet
      exact ⟨by rw [HBD.out];rfl,rfl⟩
 case rest=>
 obtain ⟨rfl,rfl⟩:=hcut
 go_upto_if 79 with fail
 cases bd
 ·obtain ⟨e1,PR0⟩:=HP1.out (HB.out.2 rfl)
  have PR:=hid PR0
  subst e1
  clear HP1 HP2 HB PR0 B2 B3
  go_wp2_with (go_at_call 26;(with_reducible refine (PR.out _).mono ?_);rintro en w8 ⟨rfl,hb8⟩)
  go_ret
  exact ⟨rfl,by (repeat' first|(with_reducible first|assumption|apply bR|apply bA|apply bN|apply bD|apply bL|apply bS)|refine bT ?_ (by assumption)|go_size)⟩
 ·obtain ⟨e1,e2⟩:=HP2.out (fun h=>by have:=HB.out.1 h;cases this)
  subst e1 e2
  clear HP1 HP2 HB B2 B3
  go_wp2_with fail
  go_ret
  exact ⟨rfl,by (repeat' first|(with_reducible first|assumption|apply bR|apply bA|apply bN|apply bD|apply bL|apply bS)|refine bT ?_ (by assumption)|go_size)⟩
end Go.Proofs.YtfphmlmgjhebjaaGreatDoor
namespace Go.Ulp
open Go.RowKit Go.WideShapes Go.ChangeShapes Go.Joins Go.Deep
section
variable {H:Type} {enc:TypeId×Value→H} {P:Program} {w:World} {base:Nat} {spare:Nat→Bool} {held:Bool}
theorem trodAll_still {w':World}: ∀ {ts:List TypeId} {vs:List Value} {ds:List (DataW H)} {ps:List MemPlace},DataW.TrodAll enc P w base spare held ts vs ds ps→(∀p∈ps,w.sameAt w' p)→DataW.TrodAll enc P w' base spare held ts vs ds ps
 | [],_,_,_,h,_=>by
   obtain ⟨rfl,rfl,rfl⟩:=trodAll_nil h
   exact trodAll_mk0
 |_::_,_,_,_,h,hs=>by
  obtain ⟨v,vs,d,ds,p,q,rfl,rfl,rfl,⟨n,h1⟩,h2⟩:=trodAll_cons h
  exact ⟨p,q,⟨n,DataW.trod_carry n _ _ _ h1 (fun x hx=>hs x (List.mem_append_left _ hx))⟩,trodAll_still h2 (fun x hx=>hs x (List.mem_append_right _ hx)),rfl⟩
theorem post_reads {f:Func} {s:ChangeSpec} {apart fresh handsOn:Bool} {W W':World} {args:Array Value} {v:Value} {ds:List (DataW H)} {p:List MemPlace}
 (hW:DataW.Whole enc P f.params.toList s.vars apart W args.toList ds [] (p++ [])) (hA:DataW.TrodAll enc P W 0 (fun _=>true) true f.params.toList args.toList ds p)
 (K:Kids P (· <P.types.size)) (full: ∀t e,t<P.types.size→P.underlying t=some (.slice e)→0<P.cellsOf e) (hts: ∀t∈f.params.toList,t<P.types.size)
 (hres: ∀b,DataW.TrodAll enc P W' b (fun _=>false) handsOn f.resultTypes.toList (v.resultList f.resultTypes.size) (s.fn H (ds++ [])).results [])
 (hargs:(s.fn H (ds++ [])).args=ds) (hvars:DataW.TrodVars enc P W' (fun b=>decide (b<W.heap.size)) s.vars (s.fn H (ds++ [])).vars [])
 (hb:Below W.heap.size W W'):s.post enc P f apart fresh handsOn false W args v W':=by
 have hlt: ∀x∈p,x.block<W.heap.size:=fun x hx=>hW.lt x (List.mem_append_left _ hx)
 have h1:=DataW.TrodAll.respare (spare':=fun b=>decide (b<W.heap.size)) K full hts hA (fun x hx=>by simpa using hlt x hx)
 have h2:=trodAll_still (w':=W') h1 (fun x hx=>hb.same (hlt x hx))
 refine ⟨ds,[],p++ [],[],p,[],hW,hres _,?_,hvars,hb.frame _,fun h=>by cases h⟩
 rw [hargs];exact h2
end
section
variable {H:Type} {enc:TypeId×Value→H} {P:Program} {w:World} {base:Nat} {spare:Nat→Bool} {held:Bool}
end
section
variable {H:Type} {enc:TypeId×Value→H} {P:Program} {w:World} {base:Nat} {spare:Nat→Bool} {held:Bool}
end
end Go.Ulp
namespace Go.Proofs.YtfphmlmgjhebjaaGreatDoor
open Go Go.RowKit Go.Ulp Go.ChangeShapes Go.WideShapes Go.ChangeAt
theorem gTab : Tryz.prog.globalNamed "math/bits.deBruijn32tab" = some 1 := by kernel_rfl
def tabZ:List Int:=Lib.deBruijn32tab.map fun n:Nat=>(n:Int)
end Go.Proofs.YtfphmlmgjhebjaaGreatDoor
