/- WantedSays: what the proof leans on, part 32 (Tb5). -/
import Derived.Stop.LaidErr
import Derived.Lay
import Derived.Test.YtfphmlmgjhebjaaGreatDoorKWantedSays14
import Derived.Test.YtfphmlmgjhebjaaGreatDoorKWantedSays31
set_option linter.unusedVariables false
set_option linter.unusedSimpArgs false
namespace Go.Ulp
open Go.RowKit Go.WideShapes Go.ChangeShapes Go.Joins Go.Deep
section
variable {H:Type} {enc:TypeId×Value→H} {P:Program} {w:World} {base:Nat} {spare:Nat→Bool} {held:Bool}
theorem array8 {α:Type} {cs:Array α} (h:cs.size=8): ∃c0 c1 c2 c3 c4 c5 c6 c7,cs= #[c0,c1,c2,c3,c4,c5,c6,c7]:=by
 obtain ⟨l⟩:=cs
 match l,h with
 | [c0,c1,c2,c3,c4,c5,c6,c7],_=>exact ⟨c0,c1,c2,c3,c4,c5,c6,c7,rfl⟩
theorem list8 {α:Type} {cs:List α} (h:cs.length=8): ∃c0 c1 c2 c3 c4 c5 c6 c7,cs= [c0,c1,c2,c3,c4,c5,c6,c7]:=by
 match cs,h with
 | [c0,c1,c2,c3,c4,c5,c6,c7],_=>exact ⟨c0,c1,c2,c3,c4,c5,c6,c7,rfl⟩
theorem read_spec {r:Reach} {b0:Nat} {t:TypeId} {f0 f1 f2 f3 f4 f5 f6 f7:Field} {v:Value} {d:DataW H} {p:List MemPlace} (hs:P.underlying t=some (.struct #[f0,f1,f2,f3,f4,f5,f6,f7])) (hone:oneCellFields P #[f0,f1,f2,f3,f4,f5,f6,f7]=true) (hC:P.cellsOf t=8)
 (h0:P.underlying f0.type=some (.int .i64)) (h1:P.underlying f1.type=some .bool) (h2:P.underlying f2.type=some .bool) (h3:P.underlying f3.type=some .bool) (h4:P.underlying f4.type=some .bool) (h5:P.underlying f5.type=some .bool) (h6:P.underlying f6.type=some (.int .i64)) (h7:P.underlying f7.type=some (.int .i64))
 (hv:Value.okWide P w r b0 t v) (h:DataW.Trod enc P w base spare held t v d p):
 ∃(a:Int) (b1 b2 b3 b4 b5:Bool) (y z:Int),v=.agg #[.int .i64 a,.bool b1,.bool b2,.bool b3,.bool b4,.bool b5,.int .i64 y,.int .i64 z]:=by
 obtain ⟨cs,rfl,hsz⟩:=okWide_struct hs hv
 obtain ⟨c0,c1,c2,c3,c4,c5,c6,c7,rfl⟩:=array8 (hsz.trans hC)
 obtain ⟨fuel,hf⟩:=h
 obtain ⟨xs,n,_,_,_,hlen,hg⟩:=DataW.trod_struct hs hf
 obtain ⟨y0,y1,y2,y3,y4,y5,y6,y7,rfl⟩:=list8 (by simpa using hlen)
 obtain ⟨o0,k0⟩:=hone_of hone 0 f0 rfl
 obtain ⟨o1,k1⟩:=hone_of hone 1 f1 rfl
 obtain ⟨o2,k2⟩:=hone_of hone 2 f2 rfl
 obtain ⟨o3,k3⟩:=hone_of hone 3 f3 rfl
 obtain ⟨o4,k4⟩:=hone_of hone 4 f4 rfl
 obtain ⟨o5,k5⟩:=hone_of hone 5 f5 rfl
 obtain ⟨o6,k6⟩:=hone_of hone 6 f6 rfl
 obtain ⟨o7,k7⟩:=hone_of hone 7 f7 rfl
 have g0:=hg 0 f0 rfl
 have g1:=hg 1 f1 rfl
 have g2:=hg 2 f2 rfl
 have g3:=hg 3 f3 rfl
 have g4:=hg 4 f4 rfl
 have g5:=hg 5 f5 rfl
 have g6:=hg 6 f6 rfl
 have g7:=hg 7 f7 rfl
 rw [o0,k0] at g0
 rw [o1,k1] at g1
 rw [o2,k2] at g2
 rw [o3,k3] at g3
 rw [o4,k4] at g4
 rw [o5,k5] at g5
 rw [o6,k6] at g6
 rw [o7,k7] at g7
 obtain ⟨a,e0,_⟩:=DataW.trod_int h0 (show DataW.trod enc P w base spare held n f0.type [c0]=some y0 by simpa [Value.cells] using g0)
 obtain ⟨b1,e1,_⟩:=DataW.trod_bool h1 (show DataW.trod enc P w base spare held n f1.type [c1]=some y1 by simpa [Value.cells] using g1)
 obtain ⟨b2,e2,_⟩:=DataW.trod_bool h2 (show DataW.trod enc P w base spare held n f2.type [c2]=some y2 by simpa [Value.cells] using g2)
 obtain ⟨b3,e3,_⟩:=DataW.trod_bool h3 (show DataW.trod enc P w base spare held n f3.type [c3]=some y3 by simpa [Value.cells] using g3)
 obtain ⟨b4,e4,_⟩:=DataW.trod_bool h4 (show DataW.trod enc P w base spare held n f4.type [c4]=some y4 by simpa [Value.cells] using g4)
 obtain ⟨b5,e5,_⟩:=DataW.trod_bool h5 (show DataW.trod enc P w base spare held n f5.type [c5]=some y5 by simpa [Value.cells] using g5)
 obtain ⟨y,e6,_⟩:=DataW.trod_int h6 (show DataW.trod enc P w base spare held n f6.type [c6]=some y6 by simpa [Value.cells] using g6)
 obtain ⟨z,e7,_⟩:=DataW.trod_int h7 (show DataW.trod enc P w base spare held n f7.type [c7]=some y7 by simpa [Value.cells] using g7)
 exact ⟨a,b1,b2,b3,b4,b5,y,z,by simp_all⟩
end
end Go.Ulp
namespace Go.Proofs.YtfphmlmgjhebjaaGreatDoor
open Go Go.RowKit Go.Ulp Go.ChangeShapes Go.WideShapes Go.ChangeAt
def laidF : List (String × DataW Unit) := [("math/bits.deBruijn32tab", Rows.laid_math_bits_deBruijn32tab), ("math/bits.deBruijn64tab", Rows.laid_math_bits_deBruijn64tab), ("internal/strconv.uint64pow10", Rows.laid_internal_strconv_uint64pow10), ("unicode/utf8.acceptRanges", Rows.laid_unicode_utf8_acceptRanges), ("unicode/utf8.first", Rows.laid_unicode_utf8_first)]
theorem gTenF : Tryz.prog.globalNamed "internal/strconv.uint64pow10" = some 6 := by kernel_rfl
theorem laid32F_eq : (("math/bits.deBruijn32tab", Rows.laid_math_bits_deBruijn32tab) : String × DataW Unit) = ("math/bits.deBruijn32tab", Lib.tabData .u8 tabZ) := by rfl
theorem laid10F_eq : (("internal/strconv.uint64pow10", Rows.laid_internal_strconv_uint64pow10) : String × DataW Unit) = ("internal/strconv.uint64pow10", Lib.tabData .u64 Lib.pow10Tab) := by rfl
theorem plainF {W:World} (h:laidMetH Tryz.prog laidF W):laidMet Tryz.prog laidF W:=by
 rwa [MakeChecks.laidMetH_plain _ _ _ (by kernel_rfl)] at h
theorem tabF {W:World} (h:laidMetH Tryz.prog laidF W):Tab 1 W:=by
 have h:=plainF h
 unfold laidF at h
 rw [laid32F_eq] at h
 have h1:=Lib.tabIs_of_head gTab (by kernel_rfl) Tryz.underlying261 Tryz.underlying5 (by kernel_rfl) (by kernel_rfl) h
 intro j hj
 have h2:=h1.cell gTab j (by unfold tabZ;rw [List.length_map];exact hj)
 rw [h2]
 unfold tabZ
 congr 2
 rw [List.getD_eq_getElem?_getD,List.getElem?_map,List.getElem?_eq_getElem hj,List.getD_eq_getElem?_getD,List.getElem?_eq_getElem hj];rfl
theorem tenF {W:World} (h:laidMetH Tryz.prog laidF W):Tab10 W:=by
 have h:=laidMet.tail (laidMet.tail (plainF h))
 rw [laid10F_eq] at h
 exact Lib.tabIs_of_head gTenF (by kernel_rfl) Tryz.underlying285 Tryz.underlying22 (by kernel_rfl) (by kernel_rfl) h
theorem doorF_met (os:Os) (args:Array Value):laidMetH Tryz.prog laidF ((World.laidAll Tryz.prog os laidF).forCall (fun _ _=>0) ⟨#[],args,[]⟩).memory:=by
 rw [MakeChecks.laidMetH_plain _ _ _ (by kernel_rfl)];exact laidMet_laidAll _ (by kernel_rfl) (by kernel_rfl)
theorem shapedF (os:Os):(World.laidAll Tryz.prog os laidF).Shaped Tryz.prog:=World.shaped_of_ZipB (by kernel_rfl) (by kernel_rfl)
end Go.Proofs.YtfphmlmgjhebjaaGreatDoor
