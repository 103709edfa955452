/- TopSum: what the proof leans on, part 21 (Frame2 Fr64 Tb Tb7). -/
import Derived.WalkKit
import Derived.ReadAgain
import Derived.ChangeReads
import Derived.Lib.SmallJoins
import Derived.ChangeSlices
import Derived.OpenShut
import Derived.Test.YtfphmlmgjhebjaaGreatDoorRows
import Derived.LaidMore
import Derived.Lib.LaidTab
import Derived.LaidLaws
import Derived.SevenTiedAt
import Derived.Stop.Joined
import Derived.Stop.LaidErr
import Derived.Lay
import Derived.Test.YtfphmlmgjhebjaaGreatDoorKTopSum1
import Derived.Test.YtfphmlmgjhebjaaGreatDoorKTopSum8
import Derived.Test.YtfphmlmgjhebjaaGreatDoorKTopSum13
set_option linter.unusedVariables false
set_option linter.unusedSimpArgs false
namespace Go.Ulp
open Go.RowKit Go.WideShapes Go.ChangeShapes Go.Joins Go.Deep
section
variable {H:Type} {enc:TypeId×Value→H} {P:Program} {w:World} {base:Nat} {spare:Nat→Bool} {held:Bool}
theorem trodAll_still {w':World}: ∀ {ts:List TypeId} {vs:List Value} {ds:List (DataW H)} {ps:List MemPlace},DataW.TrodAll enc P w base spare held ts vs ds ps→(∀p∈ps,w.sameAt w' p)→DataW.TrodAll enc P w' base spare held ts vs ds ps
 | [],_,_,_,h,_=>by
   obtain ⟨rfl,rfl,rfl⟩:=trodAll_nil h
   exact trodAll_mk0
 |_::_,_,_,_,h,hs=>by
  obtain ⟨v,vs,d,ds,p,q,rfl,rfl,rfl,⟨n,h1⟩,h2⟩:=trodAll_cons h
  exact ⟨p,q,⟨n,DataW.trod_carry n _ _ _ h1 (fun x hx=>hs x (List.mem_append_left _ hx))⟩,trodAll_still h2 (fun x hx=>hs x (List.mem_append_right _ hx)),rfl⟩
theorem post_reads {f:Func} {s:ChangeSpec} {apart fresh handsOn:Bool} {W W':World} {args:Array Value} {v:Value} {ds:List (DataW H)} {p:List MemPlace}
 (hW:DataW.Whole enc P f.params.toList s.vars apart W args.toList ds [] (p++ [])) (hA:DataW.TrodAll enc P W 0 (fun _=>true) true f.params.toList args.toList ds p)
 (K:Kids P (· <P.types.size)) (full: ∀t e,t<P.types.size→P.underlying t=some (.slice e)→0<P.cellsOf e) (hts: ∀t∈f.params.toList,t<P.types.size)
 (hres: ∀b,DataW.TrodAll enc P W' b (fun _=>false) handsOn f.resultTypes.toList (v.resultList f.resultTypes.size) (s.fn H (ds++ [])).results [])
 (hargs:(s.fn H (ds++ [])).args=ds) (hvars:DataW.TrodVars enc P W' (fun b=>decide (b<W.heap.size)) s.vars (s.fn H (ds++ [])).vars [])
 (hb:Below W.heap.size W W'):s.post enc P f apart fresh handsOn false W args v W':=by
 have hlt: ∀x∈p,x.block<W.heap.size:=fun x hx=>hW.lt x (List.mem_append_left _ hx)
 have h1:=DataW.TrodAll.respare (spare':=fun b=>decide (b<W.heap.size)) K full hts hA (fun x hx=>by simpa using hlt x hx)
 have h2:=trodAll_still (w':=W') h1 (fun x hx=>hb.same (hlt x hx))
 refine ⟨ds,[],p++ [],[],p,[],hW,hres _,?_,hvars,hb.frame _,fun h=>by cases h⟩
 rw [hargs];exact h2
end
section
variable {H:Type} {enc:TypeId×Value→H} {P:Program} {w:World} {base:Nat} {spare:Nat→Bool} {held:Bool}
theorem read_nums0 {n:Nat} {t e:TypeId} {k:IntKind} {B:Nat} {v:Value} {y:DataW H×List MemPlace} (ht:P.underlying t=some (.slice e)) (he:P.underlying e=some (.int k)) (hc:P.cellsOf e=1)
 (hB: ∀z:Int,(Lit.int k z).wf=true→0≤z∧z<(B:Int)) (h:DataW.trod enc P w base spare held n t [v]=some y): ∃(L:List Nat) (ao:Option Addr) (cap:Nat),v=.slice ao L.length cap∧Ns k w ao cap L∧AllLt B L:=by
 rcases open_ints ht he hc h with ⟨hcs,_⟩|⟨a,len,cap,zs,hcs,_,hle,hmax,hlen,_,hcell,hwf⟩
 ·injection hcs with hcs
  exact ⟨[],none,0,hcs,Ns.nil,AllLt.nil⟩
 ·injection hcs with hcs
  have hzl:len≤zs.length:=by rw [hlen];split<;>omega
  have hbd: ∀z∈zs,0≤z∧z<(B:Int):=fun z hz=>hB z (hwf z hz)
  refine ⟨(zs.take len).map Int.toNat,some a,cap,?_,⟨?_,hmax,fun hp=>?_⟩,?_⟩
  ·rw [hcs,List.length_map,List.length_take,Nat.min_eq_left hzl]
  ·rw [List.length_map,List.length_take,Nat.min_eq_left hzl];exact hle
  ·rw [List.length_map,List.length_take,Nat.min_eq_left hzl] at hp ⊢
   obtain ⟨b,off,e1,hcl⟩:=ints_at hcell (by omega)
   refine ⟨b,off,by rw [e1],fun i hi=>?_⟩
   rw [hcl i (by omega)]
   have hi2:i<zs.length:=by omega
   have hz:=hbd zs[i] (List.getElem_mem hi2)
   have e2:zs.getD i 0=zs[i]:=by simp [List.getD,List.getElem?_eq_getElem hi2]
   unfold lb
   have e3:((zs.take len).map Int.toNat).getD i 0=zs[i].toNat:=by simp [List.getD,List.getElem?_take,hi,List.getElem?_eq_getElem hi2]
   rw [e2,e3]
   congr 2
   omega
  ·intro d hd
   obtain ⟨z,hz,rfl⟩:=List.mem_map.1 hd
   have:=hbd z (List.mem_of_mem_take hz)
   omega
end
section
variable {H:Type} {enc:TypeId×Value→H} {P:Program} {w:World} {base:Nat} {spare:Nat→Bool} {held:Bool}
end
section
variable {H:Type} {enc:TypeId×Value→H} {P:Program} {w:World} {base:Nat} {spare:Nat→Bool} {held:Bool}
theorem read_nums64 {r:Reach} {b0:Nat} {t e:TypeId} {v:Value} {d:DataW H} {p:List MemPlace} (ht:P.underlying t=some (.slice e)) (he:P.underlying e=some (.int .u64)) (hc:P.cellsOf e=1)
 (hv:Value.okWide P w r b0 t v) (h:DataW.Trod enc P w base spare held t v d p): ∃(L:List Nat) (ao:Option Addr) (cap:Nat),v=.slice ao L.length cap∧Ns .u64 w ao cap L∧AllLt 18446744073709551616 L:=by
 obtain ⟨a,len,cap,rfl⟩:=okWide_slice ht hv
 obtain ⟨n,h⟩:=h
 exact read_nums0 (B:=18446744073709551616) ht he hc (fun z hz=>by have:=bounds_u64 hz;omega) h
end
end Go.Ulp
namespace Go.Proofs.YtfphmlmgjhebjaaGreatDoor
open Go Go.RowKit Go.Ulp Go.ChangeShapes Go.WideShapes Go.ChangeAt
theorem gTab : Tryz.prog.globalNamed "math/bits.deBruijn32tab" = some 1 := by kernel_rfl
def tabZ:List Int:=Lib.deBruijn32tab.map fun n:Nat=>(n:Int)
def laidV : List (String × DataW Unit) := [("math/bits.deBruijn32tab", Rows.laid_math_bits_deBruijn32tab), ("math/bits.deBruijn64tab", Rows.laid_math_bits_deBruijn64tab), ("internal/strconv.uint64pow10", Rows.laid_internal_strconv_uint64pow10), ("unicode/utf8.acceptRanges", Rows.laid_unicode_utf8_acceptRanges), ("strconv.ErrRange", Rows.laid_strconv_ErrRange), ("strconv.ErrSyntax", Rows.laid_strconv_ErrSyntax), ("unicode/utf8.first", Rows.laid_unicode_utf8_first)]
theorem gTenV : Tryz.prog.globalNamed "internal/strconv.uint64pow10" = some 6 := by kernel_rfl
theorem laid32V_eq : (("math/bits.deBruijn32tab", Rows.laid_math_bits_deBruijn32tab) : String × DataW Unit) = ("math/bits.deBruijn32tab", Lib.tabData .u8 tabZ) := by rfl
theorem laid10V_eq : (("internal/strconv.uint64pow10", Rows.laid_internal_strconv_uint64pow10) : String × DataW Unit) = ("internal/strconv.uint64pow10", Lib.tabData .u64 Lib.pow10Tab) := by rfl
theorem plainV {W:World} (h:laidMetH Tryz.prog laidV W):laidMet Tryz.prog laidV W:=by
 rwa [MakeChecks.laidMetH_plain _ _ _ (by kernel_rfl)] at h
theorem tabV {W:World} (h:laidMetH Tryz.prog laidV W):Tab 1 W:=by
 have h:=plainV h
 unfold laidV at h
 rw [laid32V_eq] at h
 have h1:=Lib.tabIs_of_head gTab (by kernel_rfl) Tryz.underlying261 Tryz.underlying5 (by kernel_rfl) (by kernel_rfl) h
 intro j hj
 have h2:=h1.cell gTab j (by unfold tabZ;rw [List.length_map];exact hj)
 rw [h2]
 unfold tabZ
 congr 2
 rw [List.getD_eq_getElem?_getD,List.getElem?_map,List.getElem?_eq_getElem hj,List.getD_eq_getElem?_getD,List.getElem?_eq_getElem hj];rfl
theorem tenV {W:World} (h:laidMetH Tryz.prog laidV W):Tab10 W:=by
 have h:=laidMet.tail (laidMet.tail (plainV h))
 rw [laid10V_eq] at h
 exact Lib.tabIs_of_head gTenV (by kernel_rfl) Tryz.underlying285 Tryz.underlying22 (by kernel_rfl) (by kernel_rfl) h
theorem doorV_met (os:Os) (args:Array Value):laidMetH Tryz.prog laidV ((World.laidAll Tryz.prog os laidV).forCall (fun _ _=>0) ⟨#[],args,[]⟩).memory:=by
 rw [MakeChecks.laidMetH_plain _ _ _ (by kernel_rfl)];exact laidMet_laidAll _ (by kernel_rfl) (by kernel_rfl)
theorem shapedV (os:Os):(World.laidAll Tryz.prog os laidV).Shaped Tryz.prog:=World.shaped_of_ZipB (by kernel_rfl) (by kernel_rfl)
end Go.Proofs.YtfphmlmgjhebjaaGreatDoor
