/- TopTold: what the proof leans on, part 11 (ShelfS Tx2 Tx8). -/
import Derived.Shelf.Strings.Builder1
import Derived.Shelf.Strings.Builder2
import Derived.Shelf.Strings.OnBuilder
import Derived.Shelf.Strings.Trim
import Derived.Shelf.Small.Utf8
import Derived.Shelf.Small.Bits
import Derived.Shelf.Small.Strs
import Derived.Shelf.Small.Wraps
import Derived.Shelf.Strings.BuilderF
import Derived.Shelf.Strconv.Atoi
import Derived.Shelf.Strconv.Itoa0
import Derived.Shelf.Strconv.Itoa1
import Derived.Shelf.LaysM
import Derived.Shelf.Strconv.Itoa2
import Derived.Shelf.Strconv.Itoa3
import Derived.Ground.MpProg
import Derived.Shelf.Pu.ParseUintPublic10
import Derived.Shelf.Strings.Search1
import Derived.Shelf.Strings.Search2
import Derived.Shelf.Strings.Search3
import Derived.Shelf.Strings.Shaped
import Derived.Shelf.Strings.Prefix
import Derived.Shelf.Strings.Runes
import Derived.Shelf.Strings.AsciiSet
import Derived.Shelf.Bits.Mul64
import Derived.Shelf.Strings.Repeat
import Derived.Shelf.Unicode.DecodeSlow
import Derived.Ground.Names2Prog
import Derived.Shelf.Slices.ReverseS
import Derived.Shelf.Slices.SearchI
import Derived.Sort.OwnSorted
import Derived.Lib.AppendIntMem
import Derived.Lib.Join
import Derived.Test.YtfphmlmgjhebjaaGreatDoorKTopTold2
import Derived.Test.YtfphmlmgjhebjaaGreatDoorKTopTold4
import Derived.Test.YtfphmlmgjhebjaaGreatDoorKTopTold10
set_option linter.unusedVariables false
set_option linter.unusedSimpArgs false
namespace Go.Proofs
open Go.Shelf
def Tryz.lays156_ren:Go.Shelf.Ren:=⟨fun|156=>223|165=>129|166=>130|169=>132|240=>190|241=>191|276=>237|277=>238|n=>n,fun|31=>177|9=>9|3=>3|4=>4|0=>0|20=>20|72=>163|76=>167|70=>161|37=>105|75=>166|127=>220|164=>254|5=>5|80=>170|n=>n,fun|n=>n⟩
theorem Tryz.lays156:Go.Proofs.Lays.n156 Tryz.prog Tryz.lays156_ren:= {
 mixed:=by kernel_rfl
 f156:=Tryz.func223.trans (congrArg some (by kernel_rfl))
 f165:=Tryz.func129.trans (congrArg some (by kernel_rfl))
 f166:=Tryz.func130.trans (congrArg some (by kernel_rfl))
 f169:=Tryz.func132.trans (congrArg some (by kernel_rfl))
 f240:=Tryz.func190.trans (congrArg some (by kernel_rfl))
 f241:=Tryz.func191.trans (congrArg some (by kernel_rfl))
 f276:=Tryz.func237.trans (congrArg some (by kernel_rfl))
 f277:=Tryz.func238.trans (congrArg some (by kernel_rfl))
 t0:=Tryz.underlying0
 a0:=Tryz.isAgg0
 z0:=Tryz.sizeOf0
 v0:=Tryz.zeroValue0
 t3:=Tryz.underlying3
 a3:=Tryz.isAgg3
 z3:=Tryz.sizeOf3
 v3:=Tryz.zeroValue3
 t4:=Tryz.underlying4
 a4:=Tryz.isAgg4
 z4:=Tryz.sizeOf4
 v4:=Tryz.zeroValue4
 t9:=Tryz.underlying9
 a9:=Tryz.isAgg9
 z9:=Tryz.sizeOf9
 v9:=Tryz.zeroValue9
 t20:=Tryz.underlying20
 a20:=Tryz.isAgg20
 z20:=Tryz.sizeOf20
 v20:=Tryz.zeroValue20
 t31:=Tryz.underlying177
 a31:=Tryz.isAgg177
 z31:=Tryz.sizeOf177
 v31:=Tryz.zeroValue177
 t37:=Tryz.underlying105
 a37:=Tryz.isAgg105
 z37:=Tryz.sizeOf105
 v37:=Tryz.zeroValue105
 t70:=Tryz.underlying161
 a70:=Tryz.isAgg161
 z70:=Tryz.sizeOf161
 v70:=Tryz.zeroValue161
 t72:=Tryz.underlying163
 a72:=Tryz.isAgg163
 z72:=Tryz.sizeOf163
 v72:=Tryz.zeroValue163
 t75:=Tryz.underlying166
 a75:=Tryz.isAgg166
 z75:=Tryz.sizeOf166
 v75:=Tryz.zeroValue166
 t76:=Tryz.underlying167
 a76:=Tryz.isAgg167
 z76:=Tryz.sizeOf167
 v76:=Tryz.zeroValue167
 t127:=Tryz.underlying220
 a127:=Tryz.isAgg220
 z127:=Tryz.sizeOf220
 v127:=Tryz.zeroValue220
 t164:=Tryz.underlying254
 a164:=Tryz.isAgg254
 z164:=Tryz.sizeOf254
 v164:=Tryz.zeroValue254}
theorem Tryz.Builder_Extra_156:Builder.Extra Tryz.prog Tryz.lays156_ren:= {
 sizeBuilder:=by kernel_rfl
 liesBuilder:=by kernel_rfl
 t5:=Tryz.underlying5
 a5:=Tryz.isAgg5
 z5:=Tryz.sizeOf5
 v5:=Tryz.zeroValue5
 infoByte:=by kernel_rfl
 cellsByte:=by kernel_rfl
 sizeByte:=by kernel_rfl
 neB5:=by decide}
open Go.RowKit in
theorem Tryz.strings_Join (bk o c:Nat) (xs:List ByteArray) (sep:ByteArray) (w:World) (hcells: ∀(j:Nat) x,xs[j]? =some x→w.cell? ⟨bk,o+j,none⟩=some (.string x)) (hbk:bk<w.heap.size) (hN:xs.length≤140737488355328) (hcap:xs.length≤c) (hlen:(Lib.join (xs.map (·.data.toList)) sep.data.toList).length≤140737488355328):
 Calls Tryz.prog 223 #[.slice (some ⟨bk,o,none⟩) xs.length c,.string sep] w fun e w'=>e=.returned (.string ⟨(Lib.join (xs.map (·.data.toList)) sep.data.toList).toArray⟩)∧Below w.heap.size w w':=Any.strings_Join Tryz.lays156 Tryz.Builder_Extra_156 bk o c xs sep w hcells hbk hN hcap hlen
def Tryz.laysM171_ren:Go.Shelf.Ren:=⟨fun|171=>168|243=>227|246=>245|283=>259|284=>260|285=>261|286=>262|129=>266|317=>265|318=>267|319=>268|320=>269|337=>219|338=>270|n=>n,fun|3=>3|9=>9|2=>2|4=>4|171=>273|0=>0|53=>22|37=>105|5=>5|173=>275|212=>285|51=>181|20=>20|213=>286|46=>62|232=>261|233=>291|n=>n,fun|17=>6|18=>1|19=>7|n=>n⟩
theorem Tryz.laysM171:Go.Proofs.LaysM.n171 Tryz.prog Tryz.laysM171_ren:= {
 mixed:=by kernel_rfl
 f129:=Tryz.func266.trans (congrArg some (by kernel_rfl))
 f171:=Tryz.func168.trans (congrArg some (by kernel_rfl))
 f243:=Tryz.func227.trans (congrArg some (by kernel_rfl))
 f246:=Tryz.func245.trans (congrArg some (by kernel_rfl))
 f283:=Tryz.func259.trans (congrArg some (by kernel_rfl))
 f284:=Tryz.func260.trans (congrArg some (by kernel_rfl))
 f285:=Tryz.func261.trans (congrArg some (by kernel_rfl))
 f286:=Tryz.func262.trans (congrArg some (by kernel_rfl))
 f317:=Tryz.func265.trans (congrArg some (by kernel_rfl))
 f318:=Tryz.func267.trans (congrArg some (by kernel_rfl))
 f319:=Tryz.func268.trans (congrArg some (by kernel_rfl))
 f320:=Tryz.func269.trans (congrArg some (by kernel_rfl))
 f337:=Tryz.func219.trans (congrArg some (by kernel_rfl))
 f338:=Tryz.func270.trans (congrArg some (by kernel_rfl))
 t0:=Tryz.underlying0
 a0:=Tryz.isAgg0
 z0:=Tryz.sizeOf0
 v0:=Tryz.zeroValue0
 t2:=Tryz.underlying2
 a2:=Tryz.isAgg2
 z2:=Tryz.sizeOf2
 v2:=Tryz.zeroValue2
 t3:=Tryz.underlying3
 a3:=Tryz.isAgg3
 z3:=Tryz.sizeOf3
 v3:=Tryz.zeroValue3
 t4:=Tryz.underlying4
 a4:=Tryz.isAgg4
 z4:=Tryz.sizeOf4
 v4:=Tryz.zeroValue4
 t5:=Tryz.underlying5
 a5:=Tryz.isAgg5
 z5:=Tryz.sizeOf5
 v5:=Tryz.zeroValue5
 t9:=Tryz.underlying9
 a9:=Tryz.isAgg9
 z9:=Tryz.sizeOf9
 v9:=Tryz.zeroValue9
 t20:=Tryz.underlying20
 a20:=Tryz.isAgg20
 z20:=Tryz.sizeOf20
 v20:=Tryz.zeroValue20
 t37:=Tryz.underlying105
 a37:=Tryz.isAgg105
 z37:=Tryz.sizeOf105
 v37:=Tryz.zeroValue105
 t46:=Tryz.underlying62
 a46:=Tryz.isAgg62
 z46:=Tryz.sizeOf62
 v46:=Tryz.zeroValue62
 t51:=Tryz.underlying181
 a51:=Tryz.isAgg181
 z51:=Tryz.sizeOf181
 v51:=Tryz.zeroValue181
 t53:=Tryz.underlying22
 a53:=Tryz.isAgg22
 z53:=Tryz.sizeOf22
 v53:=Tryz.zeroValue22
 t171:=Tryz.underlying273
 a171:=Tryz.isAgg273
 z171:=Tryz.sizeOf273
 v171:=Tryz.zeroValue273
 t173:=Tryz.underlying275
 a173:=Tryz.isAgg275
 z173:=Tryz.sizeOf275
 v173:=Tryz.zeroValue275
 t212:=Tryz.underlying285
 a212:=Tryz.isAgg285
 z212:=Tryz.sizeOf285
 v212:=Tryz.zeroValue285
 t213:=Tryz.underlying286
 a213:=Tryz.isAgg286
 z213:=Tryz.sizeOf286
 t232:=Tryz.underlying261
 a232:=Tryz.isAgg261
 z232:=Tryz.sizeOf261
 v232:=Tryz.zeroValue261
 t233:=Tryz.underlying291
 a233:=Tryz.isAgg291
 z233:=Tryz.sizeOf291
 v233:=Tryz.zeroValue291
 g17:=by kernel_rfl
 g18:=by kernel_rfl
 g19:=by kernel_rfl
 i0:=by kernel_rfl
 i2:=by kernel_rfl
 i3:=by kernel_rfl
 i4:=by kernel_rfl
 i5:=by kernel_rfl
 i9:=by kernel_rfl
 i20:=by kernel_rfl
 i37:=by kernel_rfl
 i46:=by kernel_rfl
 i51:=by kernel_rfl
 i53:=by kernel_rfl
 i171:=by kernel_rfl
 i173:=by kernel_rfl
 i212:=by kernel_rfl
 i232:=by kernel_rfl
 i233:=by kernel_rfl
 m17:=by kernel_rfl
 m18:=by kernel_rfl
 m19:=by kernel_rfl}
open Go.RowKit Go.Sort Go.Lib in
theorem Tryz.strconv_Itoa (n : Int) (h0 : -9223372036854775808 ≤ n) (h1 : n ≤ 9223372036854775807) (w : World) (htab : Lib.TabIs Tryz.prog w "internal/strconv.uint64pow10" .u64 Lib.pow10Tab) :
 Calls Tryz.prog 168 #[.int .i64 n] w fun e w'=>e=.returned (.string ⟨(Lib.itoa n).toArray⟩)∧ ∃k os,w'=grow (w.drewN k) os:=Any.strconv_Itoa Tryz.laysM171 n h0 h1 w htab
def Tryz.lays105_ren:Go.Shelf.Ren:=⟨fun|105=>70|212=>128|99=>71|165=>129|166=>130|170=>131|169=>132|263=>188|264=>189|206=>133|240=>190|241=>191|276=>237|277=>238|n=>n,fun|9=>9|3=>3|4=>4|20=>20|0=>0|46=>62|109=>159|5=>5|72=>163|76=>167|51=>181|146=>216|53=>22|148=>218|70=>161|37=>105|75=>166|127=>220|164=>254|80=>170|n=>n,fun|n=>n⟩
theorem Tryz.lays105:Go.Proofs.Lays.n105 Tryz.prog Tryz.lays105_ren:= {
 mixed:=by kernel_rfl
 f99:=Tryz.func71.trans (congrArg some (by kernel_rfl))
 f105:=Tryz.func70.trans (congrArg some (by kernel_rfl))
 f165:=Tryz.func129.trans (congrArg some (by kernel_rfl))
 f166:=Tryz.func130.trans (congrArg some (by kernel_rfl))
 f169:=Tryz.func132.trans (congrArg some (by kernel_rfl))
 f170:=Tryz.func131.trans (congrArg some (by kernel_rfl))
 f206:=Tryz.func133.trans (congrArg some (by kernel_rfl))
 f212:=Tryz.func128.trans (congrArg some (by kernel_rfl))
 f240:=Tryz.func190.trans (congrArg some (by kernel_rfl))
 f241:=Tryz.func191.trans (congrArg some (by kernel_rfl))
 f263:=Tryz.func188.trans (congrArg some (by kernel_rfl))
 f264:=Tryz.func189.trans (congrArg some (by kernel_rfl))
 f276:=Tryz.func237.trans (congrArg some (by kernel_rfl))
 f277:=Tryz.func238.trans (congrArg some (by kernel_rfl))
 t0:=Tryz.underlying0
 a0:=Tryz.isAgg0
 z0:=Tryz.sizeOf0
 v0:=Tryz.zeroValue0
 t3:=Tryz.underlying3
 a3:=Tryz.isAgg3
 z3:=Tryz.sizeOf3
 v3:=Tryz.zeroValue3
 t4:=Tryz.underlying4
 a4:=Tryz.isAgg4
 z4:=Tryz.sizeOf4
 v4:=Tryz.zeroValue4
 t5:=Tryz.underlying5
 a5:=Tryz.isAgg5
 z5:=Tryz.sizeOf5
 v5:=Tryz.zeroValue5
 t9:=Tryz.underlying9
 a9:=Tryz.isAgg9
 z9:=Tryz.sizeOf9
 v9:=Tryz.zeroValue9
 t20:=Tryz.underlying20
 a20:=Tryz.isAgg20
 z20:=Tryz.sizeOf20
 v20:=Tryz.zeroValue20
 t37:=Tryz.underlying105
 a37:=Tryz.isAgg105
 z37:=Tryz.sizeOf105
 v37:=Tryz.zeroValue105
 t46:=Tryz.underlying62
 a46:=Tryz.isAgg62
 z46:=Tryz.sizeOf62
 v46:=Tryz.zeroValue62
 t51:=Tryz.underlying181
 a51:=Tryz.isAgg181
 z51:=Tryz.sizeOf181
 v51:=Tryz.zeroValue181
 t53:=Tryz.underlying22
 a53:=Tryz.isAgg22
 z53:=Tryz.sizeOf22
 v53:=Tryz.zeroValue22
 t70:=Tryz.underlying161
 a70:=Tryz.isAgg161
 z70:=Tryz.sizeOf161
 v70:=Tryz.zeroValue161
 t72:=Tryz.underlying163
 a72:=Tryz.isAgg163
 z72:=Tryz.sizeOf163
 v72:=Tryz.zeroValue163
 t75:=Tryz.underlying166
 a75:=Tryz.isAgg166
 z75:=Tryz.sizeOf166
 v75:=Tryz.zeroValue166
 t76:=Tryz.underlying167
 a76:=Tryz.isAgg167
 z76:=Tryz.sizeOf167
 v76:=Tryz.zeroValue167
 t109:=Tryz.underlying159
 a109:=Tryz.isAgg159
 z109:=Tryz.sizeOf159
 v109:=Tryz.zeroValue159
 t127:=Tryz.underlying220
 a127:=Tryz.isAgg220
 z127:=Tryz.sizeOf220
 v127:=Tryz.zeroValue220
 t146:=Tryz.underlying216
 a146:=Tryz.isAgg216
 z146:=Tryz.sizeOf216
 v146:=Tryz.zeroValue216
 t148:=Tryz.underlying218
 a148:=Tryz.isAgg218
 z148:=Tryz.sizeOf218
 v148:=Tryz.zeroValue218
 t164:=Tryz.underlying254
 a164:=Tryz.isAgg254
 z164:=Tryz.sizeOf254
 v164:=Tryz.zeroValue254}
theorem Tryz.Builder_Extra_105:Builder.Extra Tryz.prog Tryz.lays105_ren:= {
 sizeBuilder:=by kernel_rfl
 liesBuilder:=by kernel_rfl
 t5:=Tryz.underlying5
 a5:=Tryz.isAgg5
 z5:=Tryz.sizeOf5
 v5:=Tryz.zeroValue5
 infoByte:=by kernel_rfl
 cellsByte:=by kernel_rfl
 sizeByte:=by kernel_rfl
 neB5:=by decide}
open Go.RowKit Go.Lib in
theorem Tryz.strings_Repeat (s:ByteArray) (c:Nat) (w:World) (hc:c≤9223372036854775807) (hlen:s.size*c≤140737488355328):
 Calls Tryz.prog 70 #[.string s,.int .i64 c] w fun e w'=>e=.returned (.string ⟨(Lib.repeatL s.data.toList c).toArray⟩)∧Below w.heap.size w w':=Any.strings_Repeat Tryz.lays105 Tryz.Builder_Extra_105 s c w hc hlen
def Tryz.laysNm217_ren:Go.Shelf.Ren:=⟨fun|17=>222|n=>n,fun|24=>177|9=>9|3=>3|4=>4|0=>0|n=>n,fun|n=>n⟩
theorem Tryz.laysNm217:Go.Proofs.Lays2.n17 Tryz.prog Tryz.laysNm217_ren:= {
 mixed:=by kernel_rfl
 f17:=Tryz.func222.trans (congrArg some (by kernel_rfl))
 t0:=Tryz.underlying0
 a0:=Tryz.isAgg0
 z0:=Tryz.sizeOf0
 v0:=Tryz.zeroValue0
 t3:=Tryz.underlying3
 a3:=Tryz.isAgg3
 z3:=Tryz.sizeOf3
 v3:=Tryz.zeroValue3
 t4:=Tryz.underlying4
 a4:=Tryz.isAgg4
 z4:=Tryz.sizeOf4
 v4:=Tryz.zeroValue4
 t9:=Tryz.underlying9
 a9:=Tryz.isAgg9
 z9:=Tryz.sizeOf9
 v9:=Tryz.zeroValue9
 t24:=Tryz.underlying177
 a24:=Tryz.isAgg177
 z24:=Tryz.sizeOf177
 v24:=Tryz.zeroValue177}
open Go.RowKit Go.Lib Go.Sort in
theorem Tryz.slices_Reverse_string (blk off cap:Nat) (zs:List (List UInt8)) (w:World) (hH:Holds encStr w blk off zs.toArray) (hsz:zs.length≤9223372036854775807):
 Calls Tryz.prog 222 #[.slice (some ⟨blk,off,none⟩) zs.length cap] w fun e w'=>e=.returned (.tuple #[])∧ ∃n,w'=putRow encStr (Sort.ahead w n) blk off zs.reverse.toArray:=Any.slices_Reverse_string Tryz.laysNm217 blk off cap zs w hH hsz
end Go.Proofs
namespace Go.Ulp
open Go.RowKit Go.Sort Go.Proofs
def OwnS (base:Nat) (e:TypeId) (w:World) (v:Value) (S:List (List UInt8)):Prop:=w.ownsRow base e 1 v S.length (S.map encStr)
theorem OwnS.nil {base:Nat} {e:TypeId} {w:World}:OwnS base e w (.slice none 0 0) []:=World.ownsRow_nil _ _ _ _
theorem OwnS.kept {base:Nat} {e:TypeId} {w w':World} {v:Value} {S:List (List UInt8)} (h:OwnS base e w v S) (hb:Below w.heap.size w w'):OwnS base e w' v S:=by
 obtain ⟨h1,h2⟩:=h
 refine ⟨h1,?_⟩
 rcases h2 with hn|⟨g,cap,cur,rfl,hg,hh,rest⟩
 ·exact .inl hn
 ·refine .inr ⟨g,cap,cur,rfl,hg,?_,rest⟩
  rw [hb.block g (Array.getElem?_eq_some_iff.1 hh).1];exact hh
def ElemS (P:Program) (t e:TypeId):Prop:=P.underlying t=some (.slice e)∧ ∃i,P.info? e=some i∧i.zero=some (.string ⟨#[]⟩)∧i.size=1∧i.bytes=16
theorem ElemS.mk {P:Program} {t e:TypeId} (h:P.underlying t=some (.slice e)) (hi:(P.info? e).map (fun i=>(i.zero,i.size,i.bytes))=some (some (.string ⟨#[]⟩),1,16)):ElemS P t e:=by
 obtain ⟨i0,h0,h1,h2,h3⟩:=info_parts hi
 exact ⟨h,i0,h0,h1,h2,h3⟩
theorem cell_pushS (w:World) (s:List UInt8) (e:TypeId):(w.alloc (.cells #[.string (bsOf s)] e)).cell? ⟨w.heap.size,0,none⟩=some (encStr s):=by
 rw [World.cell?_alloc_at (hn:=rfl)];simp [bsOf]
section
variable {P:Program} {w:World}
theorem wpList_pushS {ops:Array Oper} {rest:List Oper} {o:Oper} {a:Act} {Q:Exit→Act→World→Prop} {t e:TypeId} (he:ElemS P t e) (hgd:o.guard=none) (s x:Operand)
 (ho:o.op=.call {callee:=.builtin .append,args:= #[s,x],argTypes:= #[t,t]})
 (base:Nat) (S:List (List UInt8)) (d:List UInt8) (v:Value) (hs:a.eval s=v) (hown:OwnS base e w v S) (ad:Addr) (hx:a.eval x=.slice (some ad) 1 1)
 (hcell:w.cell? ad=some (encStr d)) (hlen:S.length≤8796093022206) (hbase:base≤w.heap.size)
 (h: ∀v' w',OwnS base e w' v' (S++ [d])→Below base w w'→(∀b,b<w.heap.size→(∀g n c,v=.slice (some ⟨g,0,none⟩) n c→b≠g)→w'.heap[b]? =w.heap[b]?)→wpList P ops Q rest (a.put o.dst v') w'):wpList P ops Q (o::rest) a w:=by
 obtain ⟨ht,i,hi,hz,hsz,hb⟩:=he
 refine wpList_append_own w hgd s x t ho base e i (.string ⟨#[]⟩) 1 16 ht hi hz hsz hb rfl (by decide) v S.length _ hs hown ad 1 1 [encStr d] hx rfl ?_ ?_ ?_ ?_ hbase ?_
 ·intro j u hj
  match j,hj with
  |0,hj=>
   simp only [List.getElem?_cons_zero,Option.some.injEq] at hj
   subst hj
   have e1:ad.add 0=ad:=by simp [Addr.add]
   rw [e1];exact hcell
 ·intro u hu
  rw [List.mem_singleton] at hu
  subst hu;rfl
 ·unfold maxLen;omega
 ·omega
 ·intro v' w' h1 h2 _
  refine h v' w' ?_ ?_ ?_
  ·unfold OwnS;rw [List.length_append,List.map_append];exact h1
  ·exact ⟨h2.os,h2.tape,h2.output,h2.size,fun b hbk=>h2.block b (by omega) (fun e=>by have:=(hown.lt b e.symm).1;omega)⟩
  ·intro b hb hne
   refine h2.block b hb (fun e=>?_)
   rcases hown.2 with ⟨rfl,_⟩|⟨g,cap,cur,rfl,_⟩
   ·simp [Value.ownBlock] at e
   ·exact hne g _ _ rfl (by simpa [Value.ownBlock] using e)
end
theorem bl_len2 (m n:Nat) (h:(limbs m).length≤n):bl m≤32*n:=by
 have h1:=(digs_len_le 4294967296 (by omega) m n).1 h
 rw [show (4294967296:Nat)=2^32 by decide,←Nat.pow_mul] at h1
 exact (bl_le m _).2 h1
theorem join_flat (L:List (List UInt8)):Lib.join L []=L.flatten:=by
 cases L with
 |nil=>rfl
 |cons x r=>
  rw [Lib.join_cons]
  unfold Lib.joinTail
  simp
theorem flat_len (S:List (List UInt8)) (h: ∀p∈S,0<p.length):S.length≤S.flatten.length:=by
 induction S with
 |nil=>simp
 |cons x r ih=>
  have h1:=ih (fun p hp=>h p (List.mem_cons_of_mem _ hp))
  have h2:=h x (List.mem_cons_self ..)
  rw [List.flatten_cons,List.length_append,List.length_cons];omega
theorem decD_bits (n b:Nat) (h:n<2^b) (hb:0<b):(decD n).length≤b:=by
 obtain ⟨j,rfl⟩: ∃j,b=j+1:=⟨b-1,by omega⟩
 exact decD_len j n (Nat.lt_of_lt_of_le h (Nat.pow_le_pow_left (by omega) _))
def DecSt (n q:Nat) (S:List (List UInt8)):Prop:=decD n=(if q=0 then [] else decD q)++S.reverse.flatten∧(∀p∈S,0<p.length)∧q≤n
theorem DecSt.start (n:Nat) (h:0<n):DecSt n n []:=⟨by rw [if_neg (by omega)];simp,(fun p hp=>by cases hp),Nat.le_refl _⟩
theorem DecSt.step {n q:Nat} {S:List (List UInt8)} (h:DecSt n q S) (h1:0<q/1000000000):DecSt n (q/1000000000) (S++ [padz 9 (decD (q%1000000000))]):=by
 obtain ⟨e,hp,hq⟩:=h
 refine ⟨?_,fun p hp'=>?_,by omega⟩
 ·rw [e,if_neg (by omega),if_neg (by omega),dec_nine q h1];simp
 ·rcases List.mem_append.1 hp' with h9|h9
  ·exact hp p h9
  ·rw [List.mem_singleton] at h9
   rw [h9,padz_len];omega
theorem DecSt.last {n q:Nat} {S:List (List UInt8)} (h:DecSt n q S) (h0:0<q) (h1:q/1000000000=0):DecSt n 0 (S++ [decD (q%1000000000)]):=by
 obtain ⟨e,hp,hq⟩:=h
 refine ⟨?_,fun p hp'=>?_,by omega⟩
 ·rw [e,if_neg (by omega),if_pos rfl,show q%1000000000=q by omega];simp
 ·rcases List.mem_append.1 hp' with h9|h9
  ·exact hp p h9
  ·rw [List.mem_singleton] at h9
   rw [h9];exact decD_pos _
theorem DecSt.len {n q:Nat} {S:List (List UInt8)} (h:DecSt n q S):S.length≤(decD n).length:=by
 obtain ⟨e,hp,_⟩:=h
 have h1:=flat_len S.reverse (fun p hp'=>hp p (List.mem_reverse.1 hp'))
 rw [e,List.length_append]
 rw [List.length_reverse] at h1;omega
theorem DecSt.fin {n:Nat} {S:List (List UInt8)} (h:DecSt n 0 S):S.reverse.flatten=decD n∧0<S.length:=by
 obtain ⟨e,hp,_⟩:=h
 rw [if_pos rfl] at e
 have e2:S.reverse.flatten=decD n:=by rw [e];simp
 refine ⟨e2,?_⟩
 rcases Nat.eq_zero_or_pos S.length with h9|h9
 ·have h8:=List.length_eq_zero_iff.1 h9
  rw [h8] at e2
  exact absurd e2.symm (decD_ne n)
 ·exact h9
theorem below_grown (w:World) (k:Nat) (os:Array Obj):Below w.heap.size w (grow (w.drewN k) os):=
 ⟨rfl,rfl,rfl,by rw [size_grow];exact Nat.le_add_right _ _,fun b hb=>by rw [heap_grow_old _ _ (by exact hb)];rfl⟩
def RetN2F (w:World) (n:Nat) (r:Value) (e:Ending) (w':World):Prop:=
 ∃ao,e=.returned (.tuple #[.slice ao (limbs n).length (limbs n).length,r])∧Ns .u32 w' ao (limbs n).length (limbs n)∧Below w.heap.size w w'∧(∀p,ao=some p→w.heap.size≤p.block)
theorem Ns.far {k:IntKind} {w w':World} {ao:Option Addr} {cap:Nat} {L:List Nat} (h:Ns k w ao cap L) (hh: ∀b off,ao=some ⟨b,off,none⟩→b<w.heap.size→w'.heap[b]? =w.heap[b]?):Ns k w' ao cap L:=by
 refine ⟨h.1,h.2.1,fun hp=>?_⟩
 obtain ⟨b,off,e,hc⟩:=h.2.2 hp
 refine ⟨b,off,e,fun i hi=>?_⟩
 have hb:=World.block_lt_of_cell? _ _ (hc i hi)
 rw [←hc i hi]
 unfold World.cell?
 rw [hh b off e hb]
theorem itoa_nat (r:Nat):Lib.itoa (r:Int)=decD r:=by
 unfold Lib.itoa
 rw [if_neg (by omega),Int.toNat_natCast]
end Go.Ulp
namespace Go.Proofs.YtfphmlmgjhebjaaGreatDoor
open Go.RowKit Go.Ulp Go.Sort
set_option maxHeartbeats 1000000
set_option maxRecDepth 100000
theorem ei_str:ElemS Tryz.prog 177 9:=ElemS.mk Tryz.underlying177 (by kernel_rfl)
def Tab10 (w : World) : Prop := Lib.TabIs Tryz.prog w "internal/strconv.uint64pow10" .u64 Lib.pow10Tab
theorem Tab10.below {w w':World} (h:Tab10 w) (hb:Below w.heap.size w w'):Tab10 w':=Lib.tabBelow_of_tabIs h w' hb
theorem itoa_any (n:Int) (h0: -9223372036854775808≤n) (h1:n≤9223372036854775807) (w:World) (hT:Tab10 w):
 Calls Tryz.prog 168 #[.int .i64 n] w fun e w'=>e=.returned (.string (bsOf (Lib.itoa n)))∧Below w.heap.size w w':=
 (Tryz.strconv_Itoa n h0 h1 w hT).mono fun e w' ⟨he,k,os,hw⟩=>⟨he,by rw [hw];exact below_grown w k os⟩
theorem repeat_any (c:UInt8) (k:Nat) (hk:k≤1000000000) (w:World):
 Calls Tryz.prog 70 #[.string (bsOf [c]),.int .i64 (k:Int)] w fun e w'=>e=.returned (.string (bsOf (List.replicate k c)))∧Below w.heap.size w w':=
 (Tryz.strings_Repeat (bsOf [c]) k w (by omega) (by rw [bs_size];simp;omega)).mono fun e w' ⟨he,hb⟩=>⟨by
  rw [he,bs_list]
  have h9:=Lib.repeatL_replicate c 1 k
  rw [Nat.mul_one] at h9
  rw [show [c]=List.replicate 1 c from rfl,h9];rfl,hb⟩
theorem small_fresh (a0:Option Addr) (c0:Nat) (m b:Nat) (w:World) (h0:Ns .u32 w a0 c0 (limbs m)) (hm:(limbs m).length≤4294967296) (hb0:0<b) (hb1:b<4294967296):
 Calls Tryz.prog 221 #[.slice a0 (limbs m).length c0,.int .u32 (b:Int)] w fun e w'=>RetN2F w (m/b) (.int .u32 ((m%b:Nat):Int)) e w':=by
 have lL:=limbs_lim m
 obtain ⟨hL1,hL2,hL3⟩:=h0
 unfold maxLen at hL2
 go_enter Tryz.func221,Tryz.ntmps221
 go_wp2_with (at_make;refine wpList_zeros ei_u32 (by omega) rfl _ _ rfl (limbs m).length _ _ _ _ rfl rfl (by omega) (by omega) (by omega) ?_;intro w1 hown hbl)
 obtain ⟨g,hg⟩: ∃g,g=w.heap.size:=⟨_,rfl⟩
 rw [←hg] at hown ⊢
 have HG:=hid hg
 clear hg
 go_loopw [7,8] (fun r i wr=> ∃(i0:Int) (rr:Nat) (T:List Nat),i=.int .i64 i0∧ -1≤i0∧i0<(limbs m).length∧r=.int .u64 rr∧rr<b∧Lim T∧T.length=(limbs m).length∧lval (T.drop (i0+1).toNat)*b+rr=lval ((limbs m).drop (i0+1).toNat)∧Own g 181 .u32 wr (.slice (some ⟨g,0,none⟩) (limbs m).length (limbs m).length) T∧Below w.heap.size w wr) (fun _ i _=>(intOf i+1).toNat)
 case atStart=>
  refine ⟨_,0,_,rfl,by omega,by omega,rfl,hb0,AllLt.replicate (by omega),by simp,?_,hown,hbl⟩
  rw [List.drop_eq_nil_iff.2 (by simp),List.drop_eq_nil_iff.2 (by omega)]
  simp [lval,val]
 case round=>
  clear hown hbl
  obtain ⟨i0,rr,T,rfl,hi1,hi2,rfl,hrb,lT,hT,hv,hown,hbl⟩:=hrel
  have HT:=hid hT
  have HV:=hid hv
  clear hT hv
  by_cases hi:i0<0
  ·have hz:(i0+1).toNat=0:=by omega
   have hv:=HV.out
   rw [hz,List.drop_zero,List.drop_zero,lval_limbs] at hv
   have hfin:lval T=m/b:=by rw [←hv,Nat.mul_comm,Nat.mul_add_div hb0,Nat.div_eq_of_lt hrb];rfl
   have hrem:rr=m%b:=by rw [←hv,Nat.mul_comm,Nat.mul_add_mod,Nat.mod_eq_of_lt hrb]
   have HF:=hid hfin
   have HR:=hid hrem
   clear hfin hrem hv hz
   obtain ⟨ao,cap,hval,hN⟩:=hown.ns
   have hfr: ∀p,ao=some p→w.heap.size≤p.block:=fun p hp=>by
    injection hval with h1 _ _
    rw [hp] at h1
    injection h1 with h1
    rw [←h1]
    exact Nat.le_of_eq HG.out.symm
   have HFR:=hid hfr
   have HVV:=hid hval
   clear hval hfr
   go_wp2_with fail
   rw [HVV.out]
   refine (norm_any _ _ _ _ hN lT).mono ?_
   rintro e w' ⟨rfl,rfl⟩
   have hN':=hN.norm lT
   rw [HF.out] at hN' ⊢
   go_wp2_with fail
   go_ret2
   refine ⟨_,?_,hN',hbl,HFR.out⟩
   rw [←HR.out];rfl
  ·obtain ⟨j,rfl⟩:=Int.eq_ofNat_of_zero_le (show 0≤i0 by omega)
   obtain ⟨b0,o0,rfl,hc0⟩:=hL3 (by omega)
   obtain ⟨x,hx⟩: ∃x,x=(limbs m).getD j 0:=⟨_,rfl⟩
   have hx1:x<4294967296:=by rw [hx];exact lL.getD (by omega) j
   have hcell:wr.cell? ⟨b0,o0+j,none⟩=some (.int .u32 (x:Int)):=by
    have h1:=hc0 j (by omega)
    have h2:=hbl.cell (p:=⟨b0,o0+j,none⟩) (World.block_lt_of_cell? w _ h1)
    rw [h2,h1,hx];rfl
   clear hc0 hL3
   have HX:=hid hx
   clear hx
   have hcell2:=hown.cell j (by rw [HT.out];omega)
   have hf:=hown.free j
   have E:=or_join32 (rr:Int) (x:Int) (by omega) (by omega) (by omega) (by omega)
   go_wp2_with fail
   have hlt:rr*4294967296+x<b*4294967296:=by
    have:=Nat.mul_le_mul_right 4294967296 (show rr+1≤b by omega)
    rw [Nat.add_mul] at this;omega
   have hq:(rr*4294967296+x)/b<4294967296:=Nat.div_lt_of_lt_mul hlt
   have hs:=hown.set j ((rr*4294967296+x)/b)
   have eq1:((rr:Int)*4294967296+(x:Int))/(b:Int)%4294967296=(((rr*4294967296+x)/b:Nat):Int):=by
    have:((rr:Int)*4294967296+(x:Int))/(b:Int)=(((rr*4294967296+x)/b:Nat):Int):=by simp
    rw [this];exact Int.emod_eq_of_lt (Int.natCast_nonneg _) (Int.ofNat_lt.2 hq)
   have eq2:((rr:Int)*4294967296+(x:Int))%(b:Int)=(((rr*4294967296+x)%b:Nat):Int):=by simp
   rw [eq1,eq2]
   refine ⟨⟨(j:Int)-1,(rr*4294967296+x)%b,_,rfl,by omega,by omega,rfl,Nat.mod_lt _ hb0,lT.set j _ hq,by rw [List.length_set];exact HT.out,?_,hs,?_⟩,by simp [intOf]⟩
   ·rw [show ((j:Int)-1+1).toNat=j by omega]
    have hv:=HV.out
    rw [show ((j:Int)+1).toNat=j+1 by omega] at hv
    have e1:lval ((T.set j ((rr*4294967296+x)/b)).drop j)=(rr*4294967296+x)/b+4294967296*lval (T.drop (j+1)):=val_drop_set _ _ _ _ (by rw [HT.out];omega)
    have e2:lval ((limbs m).drop j)=(limbs m).getD j 0+4294967296*lval ((limbs m).drop (j+1)):=val_drop _ _ _ (by omega)
    rw [e1,e2,←HX.out]
    exact small_step hv (by have:=Nat.div_add_mod (rr*4294967296+x) b;rw [Nat.mul_comm b] at this;omega)
   ·exact hbl.trans ((hown.set_below _ _).mono (by rw [HG.out];exact Nat.le_refl _))
theorem decimal_any (a0:Option Addr) (c0 n:Nat) (w:World) (h0:Ns .u32 w a0 c0 (limbs n)) (hl:(limbs n).length≤10000000) (hT:Tab10 w):
 Calls Tryz.prog 166 #[.slice a0 (limbs n).length c0] w fun e w'=>e=.returned (.string (bsOf (decD n)))∧Below w.heap.size w w':=by
 have hcap:=h0.1
 have hcap2:=h0.2.1
 unfold maxLen at hcap2
 have H0:=hid h0
 have HT:=hid hT
 rcases Nat.eq_zero_or_pos n with hn|hn
 ·have HL:=hid (show (limbs n).length=0 by rw [hn];rfl)
  have HD:=hid (show decD n= [48] by rw [hn];exact decD_small (n:=0) (by omega))
  have hl0:((limbs n).length:Int)=0:=by rw [HL.out];rfl
  clear h0 hT
  go_enter Tryz.func166,Tryz.ntmps166
  go_wp2_with fail
  go_ret
  exact ⟨by rw [HD.out];rfl,Below.refl _ _⟩
 ·have hln:0<(limbs n).length:=by
   rcases Nat.eq_zero_or_pos (limbs n).length with h9|h9
   ·have:=(limbs_nil n).1 (List.length_eq_zero_iff.1 h9);omega
   ·exact h9
  have hb:=bl_len2 n _ (Nat.le_refl (limbs n).length)
  have hdl:=hid (decD_bits n (bl n) (lt_bl n) ((bl_pos n).2 hn))
  have HB:=hid hb
  have hne:(((limbs n).length:Int)==0)=false:=beq_eq_false_iff_ne.2 (by omega)
  have ST:=hid (DecSt.start n hn)
  have IT:=hid (fun r h0 h1 w t=>itoa_any r h0 h1 w t)
  have RP:=hid (fun k hk w=>repeat_any 48 k hk w)
  clear h0 hT hb hn
  go_enter Tryz.func166,Tryz.ntmps166
  go_wp2_with fail
  go_loopw [0,3,4,5] (fun s0 s3 s4 s5 wr=> ∃(q:Nat) (S:List (List UInt8)) (v:Value) (a:Option Addr) (c:Nat),s0=.slice a (limbs q).length c∧s3=v∧Ns .u32 wr a c (limbs q)∧OwnS w.heap.size 9 wr v S∧DecSt n q S∧Below w.heap.size w wr) (fun s0 _ _ _ wr=>rdL wr s0)
  case atStart=>exact ⟨n,[],_,a0,c0,rfl,rfl,H0.out,OwnS.nil,ST.out,Below.refl _ _⟩
  case round=>
   obtain ⟨q,S,v,a,c,rfl,hv9,hq,hown,hst,hbl⟩:=hrel
   replace hv9:=hv9.symm
   subst hv9
   have hbs:=hbl.size
   by_cases hq0:0<q
   ·have hlq:0<(limbs q).length:=by
     rcases Nat.eq_zero_or_pos (limbs q).length with h9|h9
     ·have:=(limbs_nil q).1 (List.length_eq_zero_iff.1 h9);omega
     ·exact h9
    have hql:(limbs q).length≤(limbs n).length:=digs_len_mono _ (by omega) hst.2.2
    have SM:=hid (show ∀w,Ns .u32 w a c (limbs q)→Calls Tryz.prog 221 #[.slice a (limbs q).length c,.int .u32 1000000000] w (RetN2F w (q/1000000000) (.int .u32 ((q%1000000000:Nat):Int))) from fun w h=>small_fresh a c q 1000000000 w h (by omega) (by omega) (by omega))
    have HG:=hid (show ∀g n c,v=.slice (some ⟨g,0,none⟩) n c→g<wr.heap.size from fun g n c e=>(World.ownsRow.lt hown g (by rw [e];rfl)).2)
    have HSL:=hid (show S.length≤320000000 by have h1:=hst.len;have h2:=hdl.out;have h3:=HB.out;omega)
    have hqc:=hq.1
    have hqc2:=hq.2.1
    unfold maxLen at hqc2
    have HQ:=hid hq
    have HS1:=hid (fun h1=>hst.step h1)
    have HS2:=hid (fun h1=>hst.last hq0 h1)
    have HRD:=hid (rdL_eq hq)
    obtain ⟨q1,hq1⟩: ∃x,x=q/1000000000:=⟨_,rfl⟩
    obtain ⟨r,hr⟩: ∃x,x=q%1000000000:=⟨_,rfl⟩
    have hr1:r<1000000000:=by omega
    have hqq:q1<q:=by omega
    rw [←hq1,←hr] at SM HS1
    rw [←hq1,←hr] at HS2
    have ITr:=hid (show ∀w,Tab10 w→Calls Tryz.prog 168 #[.int .i64 (r:Int)] w fun e w'=>e=.returned (.string (bsOf (decD r)))∧Below w.heap.size w w' from fun w t=>by
     have h9:=IT.out (r:Int) (by omega) (by omega) w t
     rwa [itoa_nat] at h9)
    have hdl9:(decD r).length≤9:=decD_len 8 r (by omega)
    obtain ⟨D,hD⟩: ∃D,D=decD r:=⟨_,rfl⟩
    rw [←hD] at ITr hdl9 HS1 HS2
    obtain ⟨l,hll⟩: ∃l,l=D.length:=⟨_,rfl⟩
    have hsz:(bsOf D).size=l:=by rw [bs_size,hll]
    rw [←hll] at hdl9
    by_cases h1:0<q1
    ·have hl1:0<(limbs q1).length:=by
      rcases Nat.eq_zero_or_pos (limbs q1).length with h9|h9
      ·have:=(limbs_nil q1).1 (List.length_eq_zero_iff.1 h9);omega
      ·exact h9
     have RPl:=hid (show ∀w,Calls Tryz.prog 70 #[.string ⟨#[48]⟩,.int .i64 (9-(l:Int))] w fun e w'=>e=.returned (.string (bsOf (List.replicate (9-l) 48)))∧Below w.heap.size w w' from fun w=>by
      have h9:=RP.out (9-l) (by omega) w
      rw [show ((9-l:Nat):Int)=9-(l:Int) by omega] at h9
      exact h9)
     have hAB: ∀w,(Op.stringOp .add (bsOf (List.replicate (9-l) 48)) (bsOf D)).run Tryz.prog w=.ok (.string (bsOf (padz 9 D))) w:=fun w=>by
      rw [add_bs _ _ (by simp;omega)]
      unfold padz
      rw [←hll]
     have HS:=hid (HS1.out h1)
     have HQQ:=hid hqq
     clear hq1 hr hD hll hst HS1 HS2 hq hqq RP IT
     go_wp2_with (first
      |(go_at_call 221;(with_reducible refine (SM.out _ HQ.out).mono ?_);rintro en w1 ⟨a1,rfl,hN1,hb1,hfr1⟩)
      |(go_at_call 168;(with_reducible refine (ITr.out _ ((HT.out.below hbl).below hb1)).mono ?_);rintro en w2 ⟨rfl,hb2⟩)
      |(go_at_call 70;(with_reducible refine (RPl.out _).mono ?_);rintro en w3 ⟨rfl,hb3⟩)
      |(at_builtin;refine wpList_pushS ei_str rfl _ _ rfl w.heap.size S (padz 9 D) _ rfl (OwnS.kept (((hown.kept hb1).kept hb2).kept hb3) (below_alloc _ _)) ⟨w3.heap.size,0,none⟩ rfl (cell_pushS _ _ _) (by have:=HSL.out;omega) (by simp;have:=hb1.size;have:=hb2.size;have:=hb3.size;omega) ?_;intro v4 w4 hown4 hb4 hfar))
     have hN4:Ns .u32 w4 a1 (limbs q1).length (limbs q1):=Ns.far (((hN1.below hb2).below hb3).below (below_alloc _ _)) (fun b off e hlt=>hfar b hlt (fun g n c e2=>by
      have h7:=hfr1 _ e
      have h8:=HG.out g n c e2
      simp at h7;omega))
     go_roundw
     case rel=>exact ⟨q1,S++ [padz 9 D],v4,a1,_,rfl,rfl,hN4,hown4,HS.out,(below_trans (below_trans hbl hb1) (below_trans hb2 hb3)).trans (((below_alloc _ _).mono (by have:=hb1.size;have:=hb2.size;have:=hb3.size;omega)).trans hb4)⟩
     case measure=>rw [rdL_eq hN4,HRD.out,lval_limbs,lval_limbs];exact HQQ.out
    ·have h10:q1=0:=by omega
     have hl1:decide (0<(limbs q1).length)=false:=by rw [h10];rfl
     have HS:=hid (show DecSt n q1 (S++ [D]) by rw [h10];exact HS2.out h10)
     have HQQ:=hid hqq
     clear hq1 hr hD hll hst HS1 HS2 hq hqq RP IT h1 h10
     go_wp2_with (first
      |(go_at_call 221;(with_reducible refine (SM.out _ HQ.out).mono ?_);rintro en w1 ⟨a1,rfl,hN1,hb1,hfr1⟩)
      |(go_at_call 168;(with_reducible refine (ITr.out _ ((HT.out.below hbl).below hb1)).mono ?_);rintro en w2 ⟨rfl,hb2⟩)
      |(at_builtin;refine wpList_pushS ei_str rfl _ _ rfl w.heap.size S D _ rfl (OwnS.kept ((hown.kept hb1).kept hb2) (below_alloc _ _)) ⟨w2.heap.size,0,none⟩ rfl (cell_pushS _ _ _) (by have:=HSL.out;omega) (by simp;have:=hb1.size;have:=hb2.size;omega) ?_;intro v4 w4 hown4 hb4 hfar))
     have hN4:Ns .u32 w4 a1 (limbs q1).length (limbs q1):=Ns.far ((hN1.below hb2).below (below_alloc _ _)) (fun b off e hlt=>hfar b hlt (fun g n c e2=>by
      have h7:=hfr1 _ e
      have h8:=HG.out g n c e2
      simp at h7;omega))
     go_roundw
     case rel=>exact ⟨q1,S++ [D],v4,a1,_,rfl,rfl,hN4,hown4,HS.out,(below_trans (below_trans hbl hb1) hb2).trans (((below_alloc _ _).mono (by have:=hb1.size;have:=hb2.size;omega)).trans hb4)⟩
     case measure=>rw [rdL_eq hN4,HRD.out,lval_limbs,lval_limbs];exact HQQ.out
   ·have h10:q=0:=by omega
    have hl1:decide (0<(limbs q).length)=false:=by rw [h10];rfl
    rw [h10] at hst
    obtain ⟨hfl,hS0⟩:=hst.fin
    have hSl:=hst.len
    have hd:=hdl.out
    have hbb:=HB.out
    have hsl2:S.length≤320000000:=by omega
    have hqc:=hq.1
    have hqc2:=hq.2.1
    unfold maxLen at hqc2
    rcases hown.2 with ⟨_,h9⟩|⟨g,cap,cur,rfl,hg,hh,r1,r2,r3,r4⟩
    ·omega
    ·have hH:Holds encStr wr g 0 S.toArray:=holds_of_block hh (by simpa using r4)
     have hgl:g<wr.heap.size:=(Array.getElem?_eq_some_iff.1 hh).1
     have RV:=hid (Tryz.slices_Reverse_string g 0 cap S wr hH (by omega))
     have HJ:=hid (show ∀k,Calls Tryz.prog 223 #[.slice (some ⟨g,0,none⟩) S.length cap,.string ⟨#[]⟩] (putRow encStr (Sort.ahead wr k) g 0 S.reverse.toArray) fun e w'=>e=.returned (.string (bsOf (decD n)))∧Below wr.heap.size (putRow encStr (Sort.ahead wr k) g 0 S.reverse.toArray) w' from fun k=>by
      have hP:Holds encStr (putRow encStr (Sort.ahead wr k) g 0 S.reverse.toArray) g 0 S.reverse.toArray:=holds_putRow encStr (Sort.ahead wr k) g 0 S.toArray _ (fun j hj=>hH j hj) (by simp)
      have hz:(putRow encStr (Sort.ahead wr k) g 0 S.reverse.toArray).heap.size=wr.heap.size:=by simp [putRow,mapBlock]
      have h9:=Tryz.strings_Join g 0 cap (S.reverse.map bsOf) ⟨#[]⟩ (putRow encStr (Sort.ahead wr k) g 0 S.reverse.toArray) (fun j x hx=>by
       rw [List.getElem?_map] at hx
       obtain ⟨y,hy,rfl⟩:=Option.map_eq_some_iff.1 hx
       obtain ⟨hj,hy2⟩:=List.getElem?_eq_some_iff.1 hy
       rw [(hP j (by simpa using hj)).1,getElem!_pos _ _ (by simpa using hj)]
       show some (encStr S.reverse[j])=_
       rw [hy2];rfl) (by rw [hz];exact hgl) (by simp;omega) (by simp;omega) (by
       rw [List.map_map,show (fun x:ByteArray=>x.data.toList) ∘ bsOf=id from funext bs_list,List.map_id,show (ByteArray.mk #[]).data.toList= [] from rfl,join_flat,hfl];omega)
      rw [List.map_map,show (fun x:ByteArray=>x.data.toList) ∘ bsOf=id from funext bs_list,List.map_id,show (ByteArray.mk #[]).data.toList= [] from rfl,join_flat,hfl,List.length_map,List.length_reverse] at h9
      refine h9.mono fun e w' ⟨he,hb⟩=>⟨he,?_⟩
      rw [hz] at hb;exact hb)
     have HBP:=hid (show ∀k,Below w.heap.size wr (putRow encStr (Sort.ahead wr k) g 0 S.reverse.toArray) from fun k=>by
      refine ⟨rfl,rfl,rfl,by simp [putRow,mapBlock],fun b hb=>?_⟩
      have:g≠b:=by omega
      simp [putRow,mapBlock,Sort.ahead,Array.getElem?_modify,this])
     clear hH hfl hst hh r3 r4 hown IT RP
     go_wp2_with (first
      |(go_at_call 222;(with_reducible refine RV.out.mono ?_);rintro en w1 ⟨rfl,k9,rfl⟩)
      |(go_at_call 223;(with_reducible refine (HJ.out _).mono ?_);rintro en w2 ⟨rfl,hb2⟩))
     go_ret
     exact ⟨rfl,(hbl.trans (HBP.out k9)).trans (hb2.mono hbs)⟩
end Go.Proofs.YtfphmlmgjhebjaaGreatDoor
namespace Go.Ulp
open Go.RowKit
theorem bs_take (E:List UInt8) (k:Nat):(bsOf E).extract 0 k=bsOf (E.take k):=by
 apply ByteArray.ext
 simp [bsOf]
theorem bs_drop (E:List UInt8) (k:Nat):(bsOf E).extract k (bsOf E).size=bsOf (E.drop k):=by
 apply ByteArray.ext
 have h9:List.take (E.length-k) (List.drop k E)=List.drop k E:=List.take_of_length_le (by rw [List.length_drop];omega)
 simp [bsOf,ByteArray.size]
 try exact h9
theorem slice_to {P:Program} {t:TypeId} (ht:P.underlying t=some .string) (E:List UInt8) (j:Int) (h0:0≤j) (h:j≤E.length) (w:World):(Instr.slice t (.string (bsOf E)) none (some (.int .i64 j)) none).run P w=.ok (.string (bsOf (E.take j.toNat))) w:=by
 rw [run_slice_string_to_if w t _ _ _ ht,if_pos ⟨h0,by rw [bs_size];exact h⟩,bs_take]
theorem slice_from {P:Program} {t:TypeId} (ht:P.underlying t=some .string) (E:List UInt8) (j:Int) (h0:0≤j) (h:j≤E.length) (w:World):(Instr.slice t (.string (bsOf E)) (some (.int .i64 j)) none none).run P w=.ok (.string (bsOf (E.drop j.toNat))) w:=by
 rw [run_slice_string_from_if w t _ _ _ ht,if_pos ⟨h0,by rw [bs_size];exact h⟩,bs_drop]
end Go.Ulp
namespace Go.Proofs.YtfphmlmgjhebjaaGreatDoor
open Go.RowKit Go.Ulp
set_option maxHeartbeats 1000000
set_option maxRecDepth 100000
theorem point_any (D:List UInt8) (p:Nat) (w:World) (hD:D.length≤10000000) (hp:p≤10000000):
 Calls Tryz.prog 185 #[.string (bsOf D),.int .i64 (p:Int)] w fun e w'=>e=.returned (.string (bsOf (ptd D p)))∧Below w.heap.size w w':=by
 obtain ⟨l,hl⟩: ∃l,l=D.length:=⟨_,rfl⟩
 have hsz:(bsOf D).size=l:=by rw [bs_size,hl]
 by_cases h0:p=0
 ·subst h0
  rw [ptd_zero]
  go_enter Tryz.func185,Tryz.ntmps185
  go_wp2_with fail
  go_ret
  exact ⟨rfl,Below.refl _ _⟩
 ·have hpz:((p:Int)==0)=false:=beq_eq_false_iff_ne.2 (by omega)
  obtain ⟨E,hE⟩: ∃E,E=padz (p+1) D:=⟨_,rfl⟩
  have hEl:E.length=max (p+1) l:=by rw [hE,padz_len,hl]
  obtain ⟨e,he⟩: ∃e,e=E.length:=⟨_,rfl⟩
  have hez:(bsOf E).size=e:=by rw [bs_size,he]
  obtain ⟨c,hc⟩: ∃c:Nat,c=e-p:=⟨_,rfl⟩
  have hce:(e:Int)-(p:Int)=(c:Int):=by omega
  have hwc:IntKind.i64.wrap (c:Int)=(c:Int):=IntWalk.i64_in _ (by omega)
  have hS1:=slice_to (P:=Tryz.prog) Tryz.underlying9 E (c:Int) (by omega) (by omega)
  have hS2:=slice_from (P:=Tryz.prog) Tryz.underlying9 E (c:Int) (by omega) (by omega)
  rw [Int.toNat_natCast] at hS1 hS2
  have hA1:=add_bs (P:=Tryz.prog) (E.take c) [46] (by simp;omega)
  have hA2:=add_bs (P:=Tryz.prog) (E.take c++ [46]) (E.drop c) (by simp;omega)
  have HR:=hid (show ptd D p=E.take c++46::E.drop c by
   rw [ptd_pos D p (by omega),←hE,←he,←hc])
  have hb46:(ByteArray.mk #[46])=bsOf [46]:=rfl
  by_cases hlp:l≤p
  ·obtain ⟨k,hk⟩: ∃k:Nat,k=p+1-l:=⟨_,rfl⟩
   have hke:(p:Int)+1-(l:Int)=(k:Int):=by omega
   have RP:=hid (show ∀w,Calls Tryz.prog 70 #[.string ⟨#[48]⟩,.int .i64 (k:Int)] w fun e w'=>e=.returned (.string (bsOf (List.replicate k 48)))∧Below w.heap.size w w' from fun w=>repeat_any 48 k (by omega) w)
   have hA0: ∀w,(Op.stringOp .add (bsOf (List.replicate k 48)) (bsOf D)).run Tryz.prog w=.ok (.string (bsOf E)) w:=fun w=>by
    rw [add_bs _ _ (by simp;omega)]
    have:List.replicate k 48++D=E:=by rw [hE];unfold padz;rw [←hl,←hk]
    rw [this]
   clear hE hEl hl he hc hk h0
   go_enter Tryz.func185,Tryz.ntmps185
   go_upto_region 5 with (go_at_call 70;(with_reducible refine (RP.out _).mono ?_);rintro en w1 ⟨rfl,hb1⟩)
   refine wp_region_grow 15 [20,21,22,23,24,25,26,27,28,29,30,31,32,33,4] [Fact.is (.string (bsOf E)),Fact.is (.string (bsOf E)),Fact.is (.int .i64 (e:Int)),Fact.is (.int .i64 (p:Int)),Fact.is (.int .i64 (c:Int)),Fact.is (.string (bsOf (E.take c))),Fact.is (.string (bsOf (E.take c++ [46]))),Fact.is (.string (bsOf E)),Fact.is (.string (bsOf E)),Fact.is (.int .i64 (e:Int)),Fact.is (.int .i64 (p:Int)),Fact.is (.int .i64 (c:Int)),Fact.is (.string (bsOf (E.drop c))),Fact.is (.string (bsOf (E.take c++46::E.drop c))),Fact.is (.string (bsOf (E.take c++46::E.drop c)))] (by kernel_rfl) (by kernel_rfl) ⟨?o0,?o1,?o2,?o3,?o4,?o5,?o6,?o7,?o8,?o9,?o10,?o11,?o12,?o13,?o14,trivial⟩ ?after
   case o0=>(refine oQ rfl ?_;intro ρ w1 R hcon hfn hρ hb hp hR;have e0:ρ (.tmp 0)=.string (bsOf E):=hρ.tmp 0 rfl;clear hρ hp;unfold OpRun;go_simp;exact hR _ _ (Below.refl _ _) rfl)
   case o1=>(refine oQ rfl ?_;intro ρ w1 R hcon hfn hρ hb hp hR;have e0:ρ (.tmp 0)=.string (bsOf E):=hρ.tmp 0 rfl;clear hρ hp;unfold OpRun;go_simp;exact hR _ _ (Below.refl _ _) rfl)
   case o2=>(refine oQ rfl ?_;intro ρ w1 R hcon hfn hρ hb hp hR;have e21:ρ (.tmp 21)=_:=hp 1 21 rfl rfl;clear hρ hp;unfold OpRun;go_simp;exact hR _ _ (Below.refl _ _) rfl)
   case o3=>(refine oQ rfl ?_;intro ρ w1 R hcon hfn hρ hb hp hR;have e1:ρ (.tmp 1)=.int .i64 (p:Int):=hρ.tmp 1 rfl;clear hρ hp;unfold OpRun;go_simp;exact hR _ _ (Below.refl _ _) rfl)
   case o4=>(refine oQ rfl ?_;intro ρ w1 R hcon hfn hρ hb hp hR;have e22:ρ (.tmp 22)=_:=hp 2 22 rfl rfl;have e23:ρ (.tmp 23)=_:=hp 3 23 rfl rfl;clear hρ hp;unfold OpRun;go_simp;exact hR _ _ (Below.refl _ _) rfl)
   case o5=>(refine oQ rfl ?_;intro ρ w1 R hcon hfn hρ hb hp hR;have e20:ρ (.tmp 20)=_:=hp 0 20 rfl rfl;have e24:ρ (.tmp 24)=_:=hp 4 24 rfl rfl;clear hρ hp;unfold OpRun;go_simp;exact hR _ _ (Below.refl _ _) rfl)
   case o6=>(refine oQ rfl ?_;intro ρ w1 R hcon hfn hρ hb hp hR;have e25:ρ (.tmp 25)=_:=hp 5 25 rfl rfl;clear hρ hp;unfold OpRun;go_simp;exact hR _ _ (Below.refl _ _) rfl)
   case o7=>(refine oQ rfl ?_;intro ρ w1 R hcon hfn hρ hb hp hR;have e0:ρ (.tmp 0)=.string (bsOf E):=hρ.tmp 0 rfl;clear hρ hp;unfold OpRun;go_simp;exact hR _ _ (Below.refl _ _) rfl)
   case o8=>(refine oQ rfl ?_;intro ρ w1 R hcon hfn hρ hb hp hR;have e0:ρ (.tmp 0)=.string (bsOf E):=hρ.tmp 0 rfl;clear hρ hp;unfold OpRun;go_simp;exact hR _ _ (Below.refl _ _) rfl)
   case o9=>(refine oQ rfl ?_;intro ρ w1 R hcon hfn hρ hb hp hR;have e28:ρ (.tmp 28)=_:=hp 8 28 rfl rfl;clear hρ hp;unfold OpRun;go_simp;exact hR _ _ (Below.refl _ _) rfl)
   case o10=>(refine oQ rfl ?_;intro ρ w1 R hcon hfn hρ hb hp hR;have e1:ρ (.tmp 1)=.int .i64 (p:Int):=hρ.tmp 1 rfl;clear hρ hp;unfold OpRun;go_simp;exact hR _ _ (Below.refl _ _) rfl)
   case o11=>(refine oQ rfl ?_;intro ρ w1 R hcon hfn hρ hb hp hR;have e29:ρ (.tmp 29)=_:=hp 9 29 rfl rfl;have e30:ρ (.tmp 30)=_:=hp 10 30 rfl rfl;clear hρ hp;unfold OpRun;go_simp;exact hR _ _ (Below.refl _ _) rfl)
   case o12=>(refine oQ rfl ?_;intro ρ w1 R hcon hfn hρ hb hp hR;have e27:ρ (.tmp 27)=_:=hp 7 27 rfl rfl;have e31:ρ (.tmp 31)=_:=hp 11 31 rfl rfl;clear hρ hp;unfold OpRun;go_simp;exact hR _ _ (Below.refl _ _) rfl)
   case o13=>(refine oQ rfl ?_;intro ρ w1 R hcon hfn hρ hb hp hR;have e26:ρ (.tmp 26)=_:=hp 6 26 rfl rfl;have e32:ρ (.tmp 32)=_:=hp 12 32 rfl rfl;clear hρ hp;unfold OpRun;go_simp;exact hR _ _ (Below.refl _ _) rfl)
   case o14=>(refine oQ rfl ?_;intro ρ w1 R hcon hfn hρ hb hp hR;have e33:ρ (.tmp 33)=_:=hp 13 33 rfl rfl;clear hρ hp;unfold OpRun;go_simp;exact hR _ _ (Below.refl _ _) rfl)
   case after=>
    intro u wn hb hf
    have e4:u 4=_:=hf 14 4 (by omega) rfl
    clear hf
    simp only [putAll,Act.put,List.setIfInBounds_toArray,List.set_cons_zero,List.set_cons_succ,List.drop_succ_cons,List.drop_zero,List.drop_nil]
    rw [e4]
    go_wp2_with fail
    go_ret
    exact ⟨by rw [HR.out];rfl,below_trans hb1 hb⟩
  ·have hED:D=E:=by rw [hE,padz_long _ _ (by omega)]
   have hlE:l=e:=by rw [hl,hED,he]
   clear hE hEl hl he hc h0
   subst hlE
   rw [hED] at hsz ⊢
   rw [hED] at HR
   clear hED
   go_enter Tryz.func185,Tryz.ntmps185
   go_upto_region 5 with fail
   refine wp_region_grow 15 [20,21,22,23,24,25,26,27,28,29,30,31,32,33,4] [Fact.is (.string (bsOf E)),Fact.is (.string (bsOf E)),Fact.is (.int .i64 (l:Int)),Fact.is (.int .i64 (p:Int)),Fact.is (.int .i64 (c:Int)),Fact.is (.string (bsOf (E.take c))),Fact.is (.string (bsOf (E.take c++ [46]))),Fact.is (.string (bsOf E)),Fact.is (.string (bsOf E)),Fact.is (.int .i64 (l:Int)),Fact.is (.int .i64 (p:Int)),Fact.is (.int .i64 (c:Int)),Fact.is (.string (bsOf (E.drop c))),Fact.is (.string (bsOf (E.take c++46::E.drop c))),Fact.is (.string (bsOf (E.take c++46::E.drop c)))] (by kernel_rfl) (by kernel_rfl) ⟨?o0,?o1,?o2,?o3,?o4,?o5,?o6,?o7,?o8,?o9,?o10,?o11,?o12,?o13,?o14,trivial⟩ ?after
   case o0=>(refine oQ rfl ?_;intro ρ w1 R hcon hfn hρ hb hp hR;have e0:ρ (.tmp 0)=.string (bsOf E):=hρ.tmp 0 rfl;clear hρ hp;unfold OpRun;go_simp;exact hR _ _ (Below.refl _ _) rfl)
   case o1=>(refine oQ rfl ?_;intro ρ w1 R hcon hfn hρ hb hp hR;have e0:ρ (.tmp 0)=.string (bsOf E):=hρ.tmp 0 rfl;clear hρ hp;unfold OpRun;go_simp;exact hR _ _ (Below.refl _ _) rfl)
   case o2=>(refine oQ rfl ?_;intro ρ w1 R hcon hfn hρ hb hp hR;have e21:ρ (.tmp 21)=_:=hp 1 21 rfl rfl;clear hρ hp;unfold OpRun;go_simp;exact hR _ _ (Below.refl _ _) rfl)
   case o3=>(refine oQ rfl ?_;intro ρ w1 R hcon hfn hρ hb hp hR;have e1:ρ (.tmp 1)=.int .i64 (p:Int):=hρ.tmp 1 rfl;clear hρ hp;unfold OpRun;go_simp;exact hR _ _ (Below.refl _ _) rfl)
   case o4=>(refine oQ rfl ?_;intro ρ w1 R hcon hfn hρ hb hp hR;have e22:ρ (.tmp 22)=_:=hp 2 22 rfl rfl;have e23:ρ (.tmp 23)=_:=hp 3 23 rfl rfl;clear hρ hp;unfold OpRun;go_simp;exact hR _ _ (Below.refl _ _) rfl)
   case o5=>(refine oQ rfl ?_;intro ρ w1 R hcon hfn hρ hb hp hR;have e20:ρ (.tmp 20)=_:=hp 0 20 rfl rfl;have e24:ρ (.tmp 24)=_:=hp 4 24 rfl rfl;clear hρ hp;unfold OpRun;go_simp;exact hR _ _ (Below.refl _ _) rfl)
   case o6=>(refine oQ rfl ?_;intro ρ w1 R hcon hfn hρ hb hp hR;have e25:ρ (.tmp 25)=_:=hp 5 25 rfl rfl;clear hρ hp;unfold OpRun;go_simp;exact hR _ _ (Below.refl _ _) rfl)
   case o7=>(refine oQ rfl ?_;intro ρ w1 R hcon hfn hρ hb hp hR;have e0:ρ (.tmp 0)=.string (bsOf E):=hρ.tmp 0 rfl;clear hρ hp;unfold OpRun;go_simp;exact hR _ _ (Below.refl _ _) rfl)
   case o8=>(refine oQ rfl ?_;intro ρ w1 R hcon hfn hρ hb hp hR;have e0:ρ (.tmp 0)=.string (bsOf E):=hρ.tmp 0 rfl;clear hρ hp;unfold OpRun;go_simp;exact hR _ _ (Below.refl _ _) rfl)
   case o9=>(refine oQ rfl ?_;intro ρ w1 R hcon hfn hρ hb hp hR;have e28:ρ (.tmp 28)=_:=hp 8 28 rfl rfl;clear hρ hp;unfold OpRun;go_simp;exact hR _ _ (Below.refl _ _) rfl)
   case o10=>(refine oQ rfl ?_;intro ρ w1 R hcon hfn hρ hb hp hR;have e1:ρ (.tmp 1)=.int .i64 (p:Int):=hρ.tmp 1 rfl;clear hρ hp;unfold OpRun;go_simp;exact hR _ _ (Below.refl _ _) rfl)
   case o11=>(refine oQ rfl ?_;intro ρ w1 R hcon hfn hρ hb hp hR;have e29:ρ (.tmp 29)=_:=hp 9 29 rfl rfl;have e30:ρ (.tmp 30)=_:=hp 10 30 rfl rfl;clear hρ hp;unfold OpRun;go_simp;exact hR _ _ (Below.refl _ _) rfl)
   case o12=>(refine oQ rfl ?_;intro ρ w1 R hcon hfn hρ hb hp hR;have e27:ρ (.tmp 27)=_:=hp 7 27 rfl rfl;have e31:ρ (.tmp 31)=_:=hp 11 31 rfl rfl;clear hρ hp;unfold OpRun;go_simp;exact hR _ _ (Below.refl _ _) rfl)
   case o13=>(refine oQ rfl ?_;intro ρ w1 R hcon hfn hρ hb hp hR;have e26:ρ (.tmp 26)=_:=hp 6 26 rfl rfl;have e32:ρ (.tmp 32)=_:=hp 12 32 rfl rfl;clear hρ hp;unfold OpRun;go_simp;exact hR _ _ (Below.refl _ _) rfl)
   case o14=>(refine oQ rfl ?_;intro ρ w1 R hcon hfn hρ hb hp hR;have e33:ρ (.tmp 33)=_:=hp 13 33 rfl rfl;clear hρ hp;unfold OpRun;go_simp;exact hR _ _ (Below.refl _ _) rfl)
   case after=>
    intro u wn hb hf
    have e4:u 4=_:=hf 14 4 (by omega) rfl
    clear hf
    simp only [putAll,Act.put,List.setIfInBounds_toArray,List.set_cons_zero,List.set_cons_succ,List.drop_succ_cons,List.drop_zero,List.drop_nil]
    rw [e4]
    go_wp2_with fail
    go_ret
    exact ⟨by rw [HR.out];rfl,hb⟩
theorem signT_any (x:Int) (h0:0≤x) (h1:x<18446744073709551616) (w:World):
 Calls Tryz.prog 184 #[.int .u64 x] w fun e w'=>e=.returned (.string (bsOf (if negB x=true then [45] else [])))∧w=w':=by
 by_cases h:9223372036854775808≤x
 ·have hn:negB x=true:=decide_eq_true h
  rw [hn]
  have hs:x/9223372036854775808=1:=by omega
  go_enter Tryz.func184,Tryz.ntmps184
  go_wp2_with fail
  go_ret
  exact ⟨rfl,rfl⟩
 ·have hn:negB x=false:=decide_eq_false h
  rw [hn]
  have hs:x/9223372036854775808=0:=by omega
  go_enter Tryz.func184,Tryz.ntmps184
  go_wp2_with fail
  go_ret
  exact ⟨rfl,rfl⟩
end Go.Proofs.YtfphmlmgjhebjaaGreatDoor
