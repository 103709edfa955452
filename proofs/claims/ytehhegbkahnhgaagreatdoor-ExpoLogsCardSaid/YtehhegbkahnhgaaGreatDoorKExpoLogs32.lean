/- ExpoLogs: what the proof leans on, part 32 (Li6 Frame2 Tb). -/
import Derived.WalkKit
import Derived.ReadAgain
import Derived.ChangeReads
import Derived.Lib.SmallJoins
import Derived.ChangeSlices
import Derived.OpenShut
import Derived.Test.YtehhegbkahnhgaaGreatDoorRows
import Derived.LaidMore
import Derived.Lib.LaidTab
import Derived.LaidLaws
import Derived.SevenTiedAt
import Derived.Stop.Joined
import Derived.Test.YtehhegbkahnhgaaGreatDoorKExpoLogs2
import Derived.Test.YtehhegbkahnhgaaGreatDoorKExpoLogs14
import Derived.Test.YtehhegbkahnhgaaGreatDoorKExpoLogs31
set_option linter.unusedVariables false
set_option linter.unusedSimpArgs false
namespace Go.Proofs.YtehhegbkahnhgaaGreatDoor
open Go.RowKit Go.Ulp
set_option maxHeartbeats 4000000
set_option maxRecDepth 100000
theorem ent_el1 (caps:Array Value) (w:World):Sem.run Tryz.prog (callFunc 8 caps) w=.ok (.enter 8 caps) w:=by
 simp [callFunc,go_sem,Tryz.func8,Tryz.f8]
theorem ent_el2 (caps:Array Value) (w:World):Sem.run Tryz.prog (callFunc 10 caps) w=.ok (.enter 10 caps) w:=by
 simp [callFunc,go_sem,Tryz.func10,Tryz.f10]
theorem elC1_any (g0 g1:Nat) (x:Int) (h0:0≤x) (h1:x<18446744073709551616) (mode:Int) (m0:0≤mode) (m1:mode≤4) (X:Int) (ch:Bool) (hs:LgSaid x mode X ch) (w:World) (c0:CV w g0 (.int .u64 x)) (c1:CV w g1 (.int .i64 mode)):
 Calls Tryz.prog 8 #[.pointer (some ⟨g0,0,none⟩),.pointer (some ⟨g1,0,none⟩)] w (RetX w X ch):=by
 have PO:=hid (show ∀w,Calls Tryz.prog 9 #[.int .u64 x,.bool false,.int .i64 mode] w (RetX w X ch) from fun w=>(logBits_any x h0 h1 mode m0 m1 w).mono (fun en w' h=>by
  obtain ⟨Y,c,h1,h2⟩:=h
  obtain ⟨e1,e2⟩:=h1.uniq hs
  rw [←e1,←e2];exact h2))
 obtain ⟨k0,f0⟩:=c0
 obtain ⟨k1,f1⟩:=c1
 clear h0 h1 m0 m1 hs
 go_enter Tryz.func8,Tryz.ntmps8
 go_wp2_with (go_at_call 9;(with_reducible refine (PO.out _).mono ?_);rintro en w2 ⟨rfl,hb2⟩)
 refine bodyPost_ret (by simp [results,Tryz.results8,go_sem];try rfl) rfl ?_
 exact ⟨rfl,hb2⟩
theorem elC2_any (g0 g1:Nat) (x:Int) (h0:0≤x) (h1:x<18446744073709551616) (mode:Int) (m0:0≤mode) (m1:mode≤4) (X:Int) (ch:Bool) (hs:LpSaid x mode X ch) (w:World) (c0:CV w g0 (.int .u64 x)) (c1:CV w g1 (.int .i64 mode)):
 Calls Tryz.prog 10 #[.pointer (some ⟨g0,0,none⟩),.pointer (some ⟨g1,0,none⟩)] w (RetX w X ch):=by
 have PO:=hid (show ∀w,Calls Tryz.prog 9 #[.int .u64 x,.bool true,.int .i64 mode] w (RetX w X ch) from fun w=>(logBits1_any x h0 h1 mode m0 m1 w).mono (fun en w' h=>by
  obtain ⟨Y,c,h1,h2⟩:=h
  obtain ⟨e1,e2⟩:=h1.uniq hs
  rw [←e1,←e2];exact h2))
 obtain ⟨k0,f0⟩:=c0
 obtain ⟨k1,f1⟩:=c1
 clear h0 h1 m0 m1 hs
 go_enter Tryz.func10,Tryz.ntmps10
 go_wp2_with (go_at_call 9;(with_reducible refine (PO.out _).mono ?_);rintro en w2 ⟨rfl,hb2⟩)
 refine bodyPost_ret (by simp [results,Tryz.results10,go_sem];try rfl) rfl ?_
 exact ⟨rfl,hb2⟩
theorem expoLogs_walk (x mode:Int) (hx:0≤x∧x<18446744073709551616) (hm: -9223372036854775808≤mode∧mode≤9223372036854775807) (W:World) (hT:Tab 0 W):
 Calls Tryz.prog 3 #[.int .u64 x,.int .i64 mode] W fun e w'=>e=.returned (.bool true)∧Below W.heap.size W w':=by
 have AD:=hid (fun w t=>expoLog_any x hx.1 hx.2 mode w t)
 have SB:=hid (fun w t=>expoLog1p_any x hx.1 hx.2 mode w t)
 have TD1:=hid (fun X ch caps w hC=>told_md X ch mode 8 caps w (ent_el1 caps) hC)
 have TD2:=hid (fun X ch caps w hC=>told_md X ch mode 10 caps w (ent_el2 caps) hC)
 have C1:=hid (fun X ch g0 g1 w (hs:knownB mode=true→LgSaid x mode X ch) (hk:knownB mode=true) c0 c1=>elC1_any g0 g1 x hx.1 hx.2 mode (of_decide_eq_true hk).1 (of_decide_eq_true hk).2 X ch (hs hk) w c0 c1)
 have C2:=hid (fun X ch g0 g1 w (hs:knownB mode=true→LpSaid x mode X ch) (hk:knownB mode=true) c0 c1=>elC2_any g0 g1 x hx.1 hx.2 mode (of_decide_eq_true hk).1 (of_decide_eq_true hk).2 X ch (hs hk) w c0 c1)
 have HT:=hid hT
 have hmf: ∀fn first cap w,(Instr.makeFunc fn first cap).run Tryz.prog w=.ok (.func fn first cap) w:=fun _ _ _ _=>rfl
 obtain ⟨W0,hW0⟩: ∃X,X=(W.alloc (.cells #[.int .u64 x] 22)).alloc (.cells #[.int .i64 mode] 3):=⟨_,rfl⟩
 have yb0:Below W.heap.size W W0:=by rw [hW0];(repeat' first|(with_reducible first|assumption|apply bR|apply bA|apply bN|apply bD|apply bL|apply bS)|refine bT ?_ (by assumption)|go_size)
 have c0:CV W0 W.heap.size (.int .u64 x):=by rw [hW0];exact CV.made.below (below_alloc _ _)
 have c1:CV W0 (W.heap.size+1) (.int .i64 mode):=by
  have h:=CV.made (w:=W.alloc (.cells #[.int .u64 x] 22)) (v:=.int .i64 mode) (t:=3)
  rw [hW0];simpa using h
 clear hT
 obtain ⟨x0,x1⟩:=hx
 go_enter Tryz.func3,Tryz.ntmps3
 go_upto_region 1 with fail
 rw [←hW0]
 obtain ⟨k0,f0⟩:=id c0
 obtain ⟨k1,f1⟩:=id c1
 clear hW0
 go_upto_region 2 with (go_at_call 5;(with_reducible refine (AD.out _ (HT.out.below yb0)).mono ?_);rintro en w1 ⟨X1,ch1,hs1,rfl,hb1⟩)
 have HS1:=hid hs1
 replace c0:=c0.below hb1
 replace c1:=c1.below hb1
 replace yb0:=below_trans yb0 hb1
 clear k0 f0 k1 f1 hb1 hs1
 obtain ⟨k0,f0⟩:=id c0
 obtain ⟨k1,f1⟩:=id c1
 go_upto_region 3 with (go_at_call 6;(with_reducible refine (SB.out _ (HT.out.below yb0)).mono ?_);rintro en w2 ⟨X2,ch2,hs2,rfl,hb2⟩)
 have HS2:=hid hs2
 have E0:=hid (c0.below hb2)
 have E1:=hid (c1.below hb2)
 replace yb0:=below_trans yb0 hb2
 clear k0 f0 k1 f1 hb2 c0 c1 AD SB hs2
 have TE1:=hid (fun caps w hC=>TD1.out X1 ch1 caps w hC)
 have TE2:=hid (fun caps w hC=>TD2.out X2 ch2 caps w hC)
 have D1:=hid (fun g0 g1 w hk c0 c1=>C1.out X1 ch1 g0 g1 w HS1.out hk c0 c1)
 have D2:=hid (fun g0 g1 w hk c0 c1=>C2.out X2 ch2 g0 g1 w HS2.out hk c0 c1)
 clear TD1 TD2 C1 C2 HS1 HS2
 obtain ⟨k3,f3⟩:=E1.out
 go_wp2_with (first
  |(go_at_call 7;(with_reducible refine (TE1.out _ _ (fun hk w' hb'=>D1.out _ _ w' hk (E0.out.below hb') (E1.out.below hb'))).mono ?_);rintro en w3 ⟨rfl,hb3⟩;obtain ⟨l3,m3⟩:=E1.out.below hb3)
  |(go_at_call 7;(with_reducible refine (TE2.out _ _ (fun hk w' hb'=>D2.out _ _ w' hk ((E0.out.below hb3).below hb') ((E1.out.below hb3).below hb'))).mono ?_);rintro en w4 ⟨rfl,hb4⟩))
 go_ret
 exact ⟨rfl,below_trans (below_trans yb0 hb3) hb4⟩
end Go.Proofs.YtehhegbkahnhgaaGreatDoor
namespace Go.Ulp
open Go.RowKit Go.WideShapes Go.ChangeShapes Go.Joins Go.Deep
section
variable {H:Type} {enc:TypeId×Value→H} {P:Program} {w:World} {base:Nat} {spare:Nat→Bool} {held:Bool}
theorem trodAll_still {w':World}: ∀ {ts:List TypeId} {vs:List Value} {ds:List (DataW H)} {ps:List MemPlace},DataW.TrodAll enc P w base spare held ts vs ds ps→(∀p∈ps,w.sameAt w' p)→DataW.TrodAll enc P w' base spare held ts vs ds ps
 | [],_,_,_,h,_=>by
   obtain ⟨rfl,rfl,rfl⟩:=trodAll_nil h
   exact trodAll_mk0
 |_::_,_,_,_,h,hs=>by
  obtain ⟨v,vs,d,ds,p,q,rfl,rfl,rfl,⟨n,h1⟩,h2⟩:=trodAll_cons h
  exact ⟨p,q,⟨n,DataW.trod_carry n _ _ _ h1 (fun x hx=>hs x (List.mem_append_left _ hx))⟩,trodAll_still h2 (fun x hx=>hs x (List.mem_append_right _ hx)),rfl⟩
theorem post_reads {f:Func} {s:ChangeSpec} {apart fresh handsOn:Bool} {W W':World} {args:Array Value} {v:Value} {ds:List (DataW H)} {p:List MemPlace}
 (hW:DataW.Whole enc P f.params.toList s.vars apart W args.toList ds [] (p++ [])) (hA:DataW.TrodAll enc P W 0 (fun _=>true) true f.params.toList args.toList ds p)
 (K:Kids P (· <P.types.size)) (full: ∀t e,t<P.types.size→P.underlying t=some (.slice e)→0<P.cellsOf e) (hts: ∀t∈f.params.toList,t<P.types.size)
 (hres: ∀b,DataW.TrodAll enc P W' b (fun _=>false) handsOn f.resultTypes.toList (v.resultList f.resultTypes.size) (s.fn H (ds++ [])).results [])
 (hargs:(s.fn H (ds++ [])).args=ds) (hvars:DataW.TrodVars enc P W' (fun b=>decide (b<W.heap.size)) s.vars (s.fn H (ds++ [])).vars [])
 (hb:Below W.heap.size W W'):s.post enc P f apart fresh handsOn false W args v W':=by
 have hlt: ∀x∈p,x.block<W.heap.size:=fun x hx=>hW.lt x (List.mem_append_left _ hx)
 have h1:=DataW.TrodAll.respare (spare':=fun b=>decide (b<W.heap.size)) K full hts hA (fun x hx=>by simpa using hlt x hx)
 have h2:=trodAll_still (w':=W') h1 (fun x hx=>hb.same (hlt x hx))
 refine ⟨ds,[],p++ [],[],p,[],hW,hres _,?_,hvars,hb.frame _,fun h=>by cases h⟩
 rw [hargs];exact h2
end
section
variable {H:Type} {enc:TypeId×Value→H} {P:Program} {w:World} {base:Nat} {spare:Nat→Bool} {held:Bool}
end
section
variable {H:Type} {enc:TypeId×Value→H} {P:Program} {w:World} {base:Nat} {spare:Nat→Bool} {held:Bool}
end
end Go.Ulp
namespace Go.Proofs.YtehhegbkahnhgaaGreatDoor
open Go Go.RowKit Go.Ulp Go.ChangeShapes Go.WideShapes Go.ChangeAt
def laidT : List (String × DataW Unit) := [("math/bits.deBruijn32tab", Rows.laid_math_bits_deBruijn32tab)]
theorem gTab : Tryz.prog.globalNamed "math/bits.deBruijn32tab" = some 0 := by kernel_rfl
def tabZ:List Int:=Lib.deBruijn32tab.map fun n:Nat=>(n:Int)
theorem laidT_eq : laidT = [("math/bits.deBruijn32tab", Lib.tabData .u8 tabZ)] := by rfl
theorem tab_of_laid {W:World} (h:laidMetH Tryz.prog laidT W):Tab 0 W:=by
 rw [MakeChecks.laidMetH_plain _ _ _ (by kernel_rfl),laidT_eq] at h
 have h1:=Lib.tabIs_of_head gTab (by kernel_rfl) Tryz.underlying131 Tryz.underlying5 (by kernel_rfl) (by kernel_rfl) h
 intro j hj
 have h2:=h1.cell gTab j (by unfold tabZ;rw [List.length_map];exact hj)
 rw [h2]
 unfold tabZ
 congr 2
 rw [List.getD_eq_getElem?_getD,List.getElem?_map,List.getElem?_eq_getElem hj,List.getD_eq_getElem?_getD,List.getElem?_eq_getElem hj];rfl
theorem door_met (os:Os) (args:Array Value):laidMetH Tryz.prog laidT ((World.doorLaid Tryz.prog 400 os).forCall (fun _ _=>0) ⟨#[],args,[]⟩).memory:=
 laidMetH_of_parts3 (fuel:=8) (laidMet_of_run' 8 (by kernel_rfl) (by kernel_rfl)) (by kernel_rfl) (by kernel_rfl)
end Go.Proofs.YtehhegbkahnhgaaGreatDoor
