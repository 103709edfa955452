/- SeriesLog: what the proof leans on, part 27 (Frame2 Tb). -/
import Derived.WalkKit
import Derived.ReadAgain
import Derived.ChangeReads
import Derived.Lib.SmallJoins
import Derived.ChangeSlices
import Derived.OpenShut
import Derived.Test.YtehhegbkahnhgaaDoorRows
import Derived.LaidMore
import Derived.Lib.LaidTab
import Derived.LaidLaws
import Derived.SevenTiedAt
import Derived.Stop.Joined
import Derived.Test.YtehhegbkahnhgaaDoorKSeriesLog5
import Derived.Test.YtehhegbkahnhgaaDoorKSeriesLog14
set_option linter.unusedVariables false
set_option linter.unusedSimpArgs false
namespace Go.Ulp
open Go.RowKit Go.WideShapes Go.ChangeShapes Go.Joins Go.Deep
section
variable {H:Type} {enc:TypeId×Value→H} {P:Program} {w:World} {base:Nat} {spare:Nat→Bool} {held:Bool}
theorem trodAll_still {w':World}: ∀ {ts:List TypeId} {vs:List Value} {ds:List (DataW H)} {ps:List MemPlace},DataW.TrodAll enc P w base spare held ts vs ds ps→(∀p∈ps,w.sameAt w' p)→DataW.TrodAll enc P w' base spare held ts vs ds ps
 | [],_,_,_,h,_=>by
   obtain ⟨rfl,rfl,rfl⟩:=trodAll_nil h
   exact trodAll_mk0
 |_::_,_,_,_,h,hs=>by
  obtain ⟨v,vs,d,ds,p,q,rfl,rfl,rfl,⟨n,h1⟩,h2⟩:=trodAll_cons h
  exact ⟨p,q,⟨n,DataW.trod_carry n _ _ _ h1 (fun x hx=>hs x (List.mem_append_left _ hx))⟩,trodAll_still h2 (fun x hx=>hs x (List.mem_append_right _ hx)),rfl⟩
theorem post_reads {f:Func} {s:ChangeSpec} {apart fresh handsOn:Bool} {W W':World} {args:Array Value} {v:Value} {ds:List (DataW H)} {p:List MemPlace}
 (hW:DataW.Whole enc P f.params.toList s.vars apart W args.toList ds [] (p++ [])) (hA:DataW.TrodAll enc P W 0 (fun _=>true) true f.params.toList args.toList ds p)
 (K:Kids P (· <P.types.size)) (full: ∀t e,t<P.types.size→P.underlying t=some (.slice e)→0<P.cellsOf e) (hts: ∀t∈f.params.toList,t<P.types.size)
 (hres: ∀b,DataW.TrodAll enc P W' b (fun _=>false) handsOn f.resultTypes.toList (v.resultList f.resultTypes.size) (s.fn H (ds++ [])).results [])
 (hargs:(s.fn H (ds++ [])).args=ds) (hvars:DataW.TrodVars enc P W' (fun b=>decide (b<W.heap.size)) s.vars (s.fn H (ds++ [])).vars [])
 (hb:Below W.heap.size W W'):s.post enc P f apart fresh handsOn false W args v W':=by
 have hlt: ∀x∈p,x.block<W.heap.size:=fun x hx=>hW.lt x (List.mem_append_left _ hx)
 have h1:=DataW.TrodAll.respare (spare':=fun b=>decide (b<W.heap.size)) K full hts hA (fun x hx=>by simpa using hlt x hx)
 have h2:=trodAll_still (w':=W') h1 (fun x hx=>hb.same (hlt x hx))
 refine ⟨ds,[],p++ [],[],p,[],hW,hres _,?_,hvars,hb.frame _,fun h=>by cases h⟩
 rw [hargs];exact h2
end
section
variable {H:Type} {enc:TypeId×Value→H} {P:Program} {w:World} {base:Nat} {spare:Nat→Bool} {held:Bool}
theorem read_nums0 {n:Nat} {t e:TypeId} {k:IntKind} {B:Nat} {v:Value} {y:DataW H×List MemPlace} (ht:P.underlying t=some (.slice e)) (he:P.underlying e=some (.int k)) (hc:P.cellsOf e=1)
 (hB: ∀z:Int,(Lit.int k z).wf=true→0≤z∧z<(B:Int)) (h:DataW.trod enc P w base spare held n t [v]=some y): ∃(L:List Nat) (ao:Option Addr) (cap:Nat),v=.slice ao L.length cap∧Ns k w ao cap L∧AllLt B L:=by
 rcases open_ints ht he hc h with ⟨hcs,_⟩|⟨a,len,cap,zs,hcs,_,hle,hmax,hlen,_,hcell,hwf⟩
 ·injection hcs with hcs
  exact ⟨[],none,0,hcs,Ns.nil,AllLt.nil⟩
 ·injection hcs with hcs
  have hzl:len≤zs.length:=by rw [hlen];split<;>omega
  have hbd: ∀z∈zs,0≤z∧z<(B:Int):=fun z hz=>hB z (hwf z hz)
  refine ⟨(zs.take len).map Int.toNat,some a,cap,?_,⟨?_,hmax,fun hp=>?_⟩,?_⟩
  ·rw [hcs,List.length_map,List.length_take,Nat.min_eq_left hzl]
  ·rw [List.length_map,List.length_take,Nat.min_eq_left hzl];exact hle
  ·rw [List.length_map,List.length_take,Nat.min_eq_left hzl] at hp ⊢
   obtain ⟨b,off,e1,hcl⟩:=ints_at hcell (by omega)
   refine ⟨b,off,by rw [e1],fun i hi=>?_⟩
   rw [hcl i (by omega)]
   have hi2:i<zs.length:=by omega
   have hz:=hbd zs[i] (List.getElem_mem hi2)
   have e2:zs.getD i 0=zs[i]:=by simp [List.getD,List.getElem?_eq_getElem hi2]
   unfold lb
   have e3:((zs.take len).map Int.toNat).getD i 0=zs[i].toNat:=by simp [List.getD,List.getElem?_take,hi,List.getElem?_eq_getElem hi2]
   rw [e2,e3]
   congr 2
   omega
  ·intro d hd
   obtain ⟨z,hz,rfl⟩:=List.mem_map.1 hd
   have:=hbd z (List.mem_of_mem_take hz)
   omega
end
section
variable {H:Type} {enc:TypeId×Value→H} {P:Program} {w:World} {base:Nat} {spare:Nat→Bool} {held:Bool}
theorem read_dyad {r:Reach} {b0:Nat} {t e:TypeId} {f0 f1 f2:Field} {v:Value} {d:DataW H} {p:List MemPlace} (hs:P.underlying t=some (.struct #[f0,f1,f2])) (hone:oneCellFields P #[f0,f1,f2]=true) (hC:P.cellsOf t=3)
 (h0:P.underlying f0.type=some .bool) (h1:P.underlying f1.type=some (.slice e)) (he:P.underlying e=some (.int .u32)) (hc:P.cellsOf e=1) (h2:P.underlying f2.type=some (.int .i64))
 (hv:Value.okWide P w r b0 t v) (h:DataW.Trod enc P w base spare held t v d p):
 ∃(n:Bool) (L:List Nat) (ao:Option Addr) (cap:Nat) (x:Int),v=.agg #[.bool n,.slice ao L.length cap,.int .i64 x]∧Ns .u32 w ao cap L∧Lim L∧(-9223372036854775808≤x∧x≤9223372036854775807):=by
 obtain ⟨v0,v1,v2,y0,y1,y2,n,rfl,_,_,g0,g1,g2⟩:=open_agg3 hs hone hC hv h
 obtain ⟨b,e0,_⟩:=DataW.trod_bool h0 g0
 obtain ⟨L,ao,cap,rfl,hN,hL⟩:=read_nums0 (B:=4294967296) h1 he hc (fun z hz=>by have:=bounds_u32 hz;omega) g1
 obtain ⟨a,e2,_,hw⟩:=DataW.trod_int h2 g2
 have:=bounds_i64 hw
 injection e0 with e0
 injection e2 with e2
 exact ⟨b,L,ao,cap,a,by rw [e0,e2],hN,hL,by omega⟩
end
end Go.Ulp
namespace Go.Proofs.YtehhegbkahnhgaaDoor
open Go Go.RowKit Go.Ulp Go.ChangeShapes Go.WideShapes Go.ChangeAt
def laidT : List (String × DataW Unit) := [("math/bits.deBruijn32tab", Rows.laid_math_bits_deBruijn32tab)]
theorem gTab : Tryd.prog.globalNamed "math/bits.deBruijn32tab" = some 0 := by kernel_rfl
def tabZ:List Int:=Lib.deBruijn32tab.map fun n:Nat=>(n:Int)
theorem laidT_eq : laidT = [("math/bits.deBruijn32tab", Lib.tabData .u8 tabZ)] := by rfl
theorem tab_of_laid {W:World} (h:laidMetH Tryd.prog laidT W):Tab 0 W:=by
 rw [MakeChecks.laidMetH_plain _ _ _ (by kernel_rfl),laidT_eq] at h
 have h1:=Lib.tabIs_of_head gTab (by kernel_rfl) Tryd.underlying107 Tryd.underlying5 (by kernel_rfl) (by kernel_rfl) h
 intro j hj
 have h2:=h1.cell gTab j (by unfold tabZ;rw [List.length_map];exact hj)
 rw [h2]
 unfold tabZ
 congr 2
 rw [List.getD_eq_getElem?_getD,List.getElem?_map,List.getElem?_eq_getElem hj,List.getD_eq_getElem?_getD,List.getElem?_eq_getElem hj];rfl
theorem door_met (os:Os) (args:Array Value):laidMetH Tryd.prog laidT ((World.doorLaid Tryd.prog 400 os).forCall (fun _ _=>0) ⟨#[],args,[]⟩).memory:=
 laidMetH_of_parts3 (fuel:=8) (laidMet_of_run' 8 (by kernel_rfl) (by kernel_rfl)) (by kernel_rfl) (by kernel_rfl)
end Go.Proofs.YtehhegbkahnhgaaDoor
