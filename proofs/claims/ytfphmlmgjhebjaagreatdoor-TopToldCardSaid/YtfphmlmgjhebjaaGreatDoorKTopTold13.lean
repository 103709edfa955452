/- TopTold: what the proof leans on, part 13 (ShelfT Re3 ShelfP). -/
import Derived.Shelf.Strings.Builder1
import Derived.Shelf.Strings.Builder2
import Derived.Shelf.Strings.OnBuilder
import Derived.Shelf.Strings.Trim
import Derived.Shelf.Small.Utf8
import Derived.Shelf.Small.Bits
import Derived.Shelf.Small.Strs
import Derived.Shelf.Small.Wraps
import Derived.Shelf.Strings.BuilderF
import Derived.Shelf.Strconv.Atoi
import Derived.Shelf.Strconv.Itoa0
import Derived.Shelf.Strconv.Itoa1
import Derived.Shelf.LaysM
import Derived.Shelf.Strconv.Itoa2
import Derived.Shelf.Strconv.Itoa3
import Derived.Ground.MpProg
import Derived.Shelf.Pu.ParseUintPublic10
import Derived.Shelf.Strings.Search1
import Derived.Shelf.Strings.Search2
import Derived.Shelf.Strings.Search3
import Derived.Shelf.Strings.Shaped
import Derived.Shelf.Strings.Prefix
import Derived.Shelf.Strings.Runes
import Derived.Shelf.Strings.AsciiSet
import Derived.Shelf.Bits.Mul64
import Derived.Shelf.Strings.Repeat
import Derived.Shelf.Unicode.DecodeSlow
import Derived.Ground.Names2Prog
import Derived.Shelf.Slices.ReverseS
import Derived.Shelf.Slices.SearchI
import Derived.Shelf.Strings.SlTrimAscii
import Derived.Lib.ParseIntB
import Derived.Lib.AtoiErrMem
import Derived.Test.YtfphmlmgjhebjaaGreatDoorProg
import Derived.Test.YtfphmlmgjhebjaaGreatDoorKTopTold4
import Derived.Test.YtfphmlmgjhebjaaGreatDoorKTopTold11
set_option linter.unusedVariables false
set_option linter.unusedSimpArgs false
namespace Go.Proofs
open Go.Shelf
def Tryz.lays161_ren:Go.Shelf.Ren:=⟨fun|161=>155|231=>215|227=>216|233=>217|235=>218|228=>242|197=>243|151=>72|260=>257|152=>134|137=>66|119=>192|224=>193|225=>194|217=>123|266=>181|n=>n,fun|9=>9|4=>4|3=>3|5=>5|117=>239|116=>238|0=>0|124=>242|105=>259|21=>21|119=>280|46=>62|139=>283|138=>282|n=>n,fun|3=>4|4=>5|n=>n⟩
theorem Tryz.lays161:Go.Proofs.Lays.n161 Tryz.prog Tryz.lays161_ren:= {
 mixed:=by kernel_rfl
 f119:=Tryz.func192.trans (congrArg some (by kernel_rfl))
 f137:=Tryz.func66.trans (congrArg some (by kernel_rfl))
 f151:=Tryz.func72.trans (congrArg some (by kernel_rfl))
 f152:=Tryz.func134.trans (congrArg some (by kernel_rfl))
 f161:=Tryz.func155.trans (congrArg some (by kernel_rfl))
 f197:=Tryz.func243.trans (congrArg some (by kernel_rfl))
 f217:=Tryz.func123.trans (congrArg some (by kernel_rfl))
 f224:=Tryz.func193.trans (congrArg some (by kernel_rfl))
 f225:=Tryz.func194.trans (congrArg some (by kernel_rfl))
 f227:=Tryz.func216.trans (congrArg some (by kernel_rfl))
 f228:=Tryz.func242.trans (congrArg some (by kernel_rfl))
 f231:=Tryz.func215.trans (congrArg some (by kernel_rfl))
 f233:=Tryz.func217.trans (congrArg some (by kernel_rfl))
 f235:=Tryz.func218.trans (congrArg some (by kernel_rfl))
 f260:=Tryz.func257.trans (congrArg some (by kernel_rfl))
 f266:=Tryz.func181.trans (congrArg some (by kernel_rfl))
 t0:=Tryz.underlying0
 a0:=Tryz.isAgg0
 z0:=Tryz.sizeOf0
 v0:=Tryz.zeroValue0
 t3:=Tryz.underlying3
 a3:=Tryz.isAgg3
 z3:=Tryz.sizeOf3
 v3:=Tryz.zeroValue3
 t4:=Tryz.underlying4
 a4:=Tryz.isAgg4
 z4:=Tryz.sizeOf4
 v4:=Tryz.zeroValue4
 t5:=Tryz.underlying5
 a5:=Tryz.isAgg5
 z5:=Tryz.sizeOf5
 v5:=Tryz.zeroValue5
 t9:=Tryz.underlying9
 a9:=Tryz.isAgg9
 z9:=Tryz.sizeOf9
 v9:=Tryz.zeroValue9
 t21:=Tryz.underlying21
 a21:=Tryz.isAgg21
 z21:=Tryz.sizeOf21
 v21:=Tryz.zeroValue21
 t46:=Tryz.underlying62
 a46:=Tryz.isAgg62
 z46:=Tryz.sizeOf62
 v46:=Tryz.zeroValue62
 t105:=Tryz.underlying259
 a105:=Tryz.isAgg259
 z105:=Tryz.sizeOf259
 v105:=Tryz.zeroValue259
 t116:=Tryz.underlying238
 a116:=Tryz.isAgg238
 z116:=Tryz.sizeOf238
 t117:=Tryz.underlying239
 a117:=Tryz.isAgg239
 z117:=Tryz.sizeOf239
 v117:=Tryz.zeroValue239
 t119:=Tryz.underlying280
 a119:=Tryz.isAgg280
 z119:=Tryz.sizeOf280
 t124:=Tryz.underlying242
 a124:=Tryz.isAgg242
 z124:=Tryz.sizeOf242
 v124:=Tryz.zeroValue242
 t138:=Tryz.underlying282
 a138:=Tryz.isAgg282
 z138:=Tryz.sizeOf282
 v138:=Tryz.zeroValue282
 t139:=Tryz.underlying283
 a139:=Tryz.isAgg283
 z139:=Tryz.sizeOf283
 v139:=Tryz.zeroValue283
 g3:=by kernel_rfl
 g4:=by kernel_rfl}
open Go.RowKit in
theorem Tryz.strings_TrimLeft_one (s:ByteArray) (c:UInt8) (hc:c.toNat<128) (w:World):
 Calls Tryz.prog 155 #[.string s,.string ⟨#[c]⟩] w fun e w'=>e=.returned (.string ⟨(Lib.trimLeftB s.data.toList c).toArray⟩)∧w'=w:=Any.strings_TrimLeft_one Tryz.lays161 s c hc w
def Tryz.lays103_ren:Go.Shelf.Ren:=⟨fun|103=>64|210=>122|206=>133|n=>n,fun|9=>9|4=>4|24=>94|3=>3|n=>n,fun|n=>n⟩
theorem Tryz.lays103:Go.Proofs.Lays.n103 Tryz.prog Tryz.lays103_ren:= {
 mixed:=by kernel_rfl
 f103:=Tryz.func64.trans (congrArg some (by kernel_rfl))
 f206:=Tryz.func133.trans (congrArg some (by kernel_rfl))
 f210:=Tryz.func122.trans (congrArg some (by kernel_rfl))
 t3:=Tryz.underlying3
 a3:=Tryz.isAgg3
 z3:=Tryz.sizeOf3
 v3:=Tryz.zeroValue3
 t4:=Tryz.underlying4
 a4:=Tryz.isAgg4
 z4:=Tryz.sizeOf4
 v4:=Tryz.zeroValue4
 t9:=Tryz.underlying9
 a9:=Tryz.isAgg9
 z9:=Tryz.sizeOf9
 v9:=Tryz.zeroValue9
 t24:=Tryz.underlying94
 a24:=Tryz.isAgg94
 z24:=Tryz.sizeOf94
 v24:=Tryz.zeroValue94}
open Go.RowKit in
theorem Tryz.strings_CutPrefix (s p:ByteArray) (w:World):
 Calls Tryz.prog 64 #[.string s,.string p] w fun e w'=>e=.returned (.tuple #[.string ⟨(Lib.trimPrefix s.data.toList p.data.toList).toArray⟩,.bool (Lib.hasPrefix s.data.toList p.data.toList)])∧w'=w:=Any.strings_CutPrefix Tryz.lays103 s p w
def Tryz.lays172_ren:Go.Shelf.Ren:=⟨fun|172=>170|244=>228|245=>229|247=>246|279=>247|280=>248|281=>249|282=>250|287=>230|316=>263|171=>168|205=>264|321=>251|322=>252|243=>227|246=>245|283=>259|284=>260|285=>261|286=>262|129=>266|317=>265|318=>267|319=>268|320=>269|337=>219|338=>270|n=>n,fun|9=>9|3=>3|75=>166|76=>167|4=>4|5=>5|167=>263|37=>105|0=>0|85=>264|2=>2|168=>266|53=>22|175=>201|46=>62|210=>278|127=>220|145=>290|143=>288|21=>21|171=>273|173=>275|212=>285|51=>181|20=>20|213=>286|232=>261|233=>291|80=>170|n=>n,fun|15=>2|16=>3|17=>6|18=>1|19=>7|n=>n⟩
theorem Tryz.lays172:Go.Proofs.Lays.n172 Tryz.prog Tryz.lays172_ren:= {
 mixed:=by kernel_rfl
 f129:=Tryz.func266.trans (congrArg some (by kernel_rfl))
 f171:=Tryz.func168.trans (congrArg some (by kernel_rfl))
 f172:=Tryz.func170.trans (congrArg some (by kernel_rfl))
 f205:=Tryz.func264.trans (congrArg some (by kernel_rfl))
 f243:=Tryz.func227.trans (congrArg some (by kernel_rfl))
 f244:=Tryz.func228.trans (congrArg some (by kernel_rfl))
 f245:=Tryz.func229.trans (congrArg some (by kernel_rfl))
 f246:=Tryz.func245.trans (congrArg some (by kernel_rfl))
 f247:=Tryz.func246.trans (congrArg some (by kernel_rfl))
 f279:=Tryz.func247.trans (congrArg some (by kernel_rfl))
 f280:=Tryz.func248.trans (congrArg some (by kernel_rfl))
 f281:=Tryz.func249.trans (congrArg some (by kernel_rfl))
 f282:=Tryz.func250.trans (congrArg some (by kernel_rfl))
 f283:=Tryz.func259.trans (congrArg some (by kernel_rfl))
 f284:=Tryz.func260.trans (congrArg some (by kernel_rfl))
 f285:=Tryz.func261.trans (congrArg some (by kernel_rfl))
 f286:=Tryz.func262.trans (congrArg some (by kernel_rfl))
 f287:=Tryz.func230.trans (congrArg some (by kernel_rfl))
 f316:=Tryz.func263.trans (congrArg some (by kernel_rfl))
 f317:=Tryz.func265.trans (congrArg some (by kernel_rfl))
 f318:=Tryz.func267.trans (congrArg some (by kernel_rfl))
 f319:=Tryz.func268.trans (congrArg some (by kernel_rfl))
 f320:=Tryz.func269.trans (congrArg some (by kernel_rfl))
 f321:=Tryz.func251.trans (congrArg some (by kernel_rfl))
 f322:=Tryz.func252.trans (congrArg some (by kernel_rfl))
 f337:=Tryz.func219.trans (congrArg some (by kernel_rfl))
 f338:=Tryz.func270.trans (congrArg some (by kernel_rfl))
 t0:=Tryz.underlying0
 a0:=Tryz.isAgg0
 z0:=Tryz.sizeOf0
 v0:=Tryz.zeroValue0
 t2:=Tryz.underlying2
 a2:=Tryz.isAgg2
 z2:=Tryz.sizeOf2
 v2:=Tryz.zeroValue2
 t3:=Tryz.underlying3
 a3:=Tryz.isAgg3
 z3:=Tryz.sizeOf3
 v3:=Tryz.zeroValue3
 t4:=Tryz.underlying4
 a4:=Tryz.isAgg4
 z4:=Tryz.sizeOf4
 v4:=Tryz.zeroValue4
 t5:=Tryz.underlying5
 a5:=Tryz.isAgg5
 z5:=Tryz.sizeOf5
 v5:=Tryz.zeroValue5
 t9:=Tryz.underlying9
 a9:=Tryz.isAgg9
 z9:=Tryz.sizeOf9
 v9:=Tryz.zeroValue9
 t20:=Tryz.underlying20
 a20:=Tryz.isAgg20
 z20:=Tryz.sizeOf20
 v20:=Tryz.zeroValue20
 t21:=Tryz.underlying21
 a21:=Tryz.isAgg21
 z21:=Tryz.sizeOf21
 v21:=Tryz.zeroValue21
 t37:=Tryz.underlying105
 a37:=Tryz.isAgg105
 z37:=Tryz.sizeOf105
 v37:=Tryz.zeroValue105
 t46:=Tryz.underlying62
 a46:=Tryz.isAgg62
 z46:=Tryz.sizeOf62
 v46:=Tryz.zeroValue62
 t51:=Tryz.underlying181
 a51:=Tryz.isAgg181
 z51:=Tryz.sizeOf181
 v51:=Tryz.zeroValue181
 t53:=Tryz.underlying22
 a53:=Tryz.isAgg22
 z53:=Tryz.sizeOf22
 v53:=Tryz.zeroValue22
 t75:=Tryz.underlying166
 a75:=Tryz.isAgg166
 z75:=Tryz.sizeOf166
 v75:=Tryz.zeroValue166
 t76:=Tryz.underlying167
 a76:=Tryz.isAgg167
 z76:=Tryz.sizeOf167
 v76:=Tryz.zeroValue167
 t85:=Tryz.underlying264
 a85:=Tryz.isAgg264
 z85:=Tryz.sizeOf264
 v85:=Tryz.zeroValue264
 t127:=Tryz.underlying220
 a127:=Tryz.isAgg220
 z127:=Tryz.sizeOf220
 v127:=Tryz.zeroValue220
 t143:=Tryz.underlying288
 a143:=Tryz.isAgg288
 z143:=Tryz.sizeOf288
 v143:=Tryz.zeroValue288
 t145:=Tryz.underlying290
 a145:=Tryz.isAgg290
 z145:=Tryz.sizeOf290
 v145:=Tryz.zeroValue290
 t167:=Tryz.underlying263
 a167:=Tryz.isAgg263
 z167:=Tryz.sizeOf263
 v167:=Tryz.zeroValue263
 t168:=Tryz.underlying266
 a168:=Tryz.isAgg266
 z168:=Tryz.sizeOf266
 v168:=Tryz.zeroValue266
 t171:=Tryz.underlying273
 a171:=Tryz.isAgg273
 z171:=Tryz.sizeOf273
 v171:=Tryz.zeroValue273
 t173:=Tryz.underlying275
 a173:=Tryz.isAgg275
 z173:=Tryz.sizeOf275
 v173:=Tryz.zeroValue275
 t175:=Tryz.underlying201
 a175:=Tryz.isAgg201
 z175:=Tryz.sizeOf201
 v175:=Tryz.zeroValue201
 t210:=Tryz.underlying278
 a210:=Tryz.isAgg278
 z210:=Tryz.sizeOf278
 v210:=Tryz.zeroValue278
 t212:=Tryz.underlying285
 a212:=Tryz.isAgg285
 z212:=Tryz.sizeOf285
 v212:=Tryz.zeroValue285
 t213:=Tryz.underlying286
 a213:=Tryz.isAgg286
 z213:=Tryz.sizeOf286
 t232:=Tryz.underlying261
 a232:=Tryz.isAgg261
 z232:=Tryz.sizeOf261
 v232:=Tryz.zeroValue261
 t233:=Tryz.underlying291
 a233:=Tryz.isAgg291
 z233:=Tryz.sizeOf291
 v233:=Tryz.zeroValue291
 g15:=by kernel_rfl
 g16:=by kernel_rfl
 g17:=by kernel_rfl
 g18:=by kernel_rfl
 g19:=by kernel_rfl}
open Go.RowKit in
theorem Tryz.strconv_Atoi (s:ByteArray) (n:Int) (hl:s.size≤18) (h:Lib.atoi s.data.toList=some n) (w:World):
 Calls Tryz.prog 170 #[.string s] w fun e w'=>e=.returned (.tuple #[.int .i64 n,.nilIface])∧ ∃t,w'=Lib.bytesWorld w 5 t:=Any.strconv_Atoi Tryz.lays172 s n hl h w
end Go.Proofs
namespace Go.Ulp
open Go.RowKit
def isDg (b:UInt8):Bool:=decide (48≤b.toNat∧b.toNat≤57)
theorem dg_contains (b:UInt8): [48,49,50,51,52,53,54,55,56,57].contains b=isDg b:=by
 have: ∀n:Fin 256,[48,49,50,51,52,53,54,55,56,57].contains (UInt8.ofNat n.1)=isDg (UInt8.ofNat n.1):=by decide+kernel
 have h:=this ⟨b.toNat,b.toNat_lt⟩
 simpa using h
def tkD (L:List UInt8):List UInt8:=L.takeWhile isDg
def dpD (L:List UInt8):List UInt8:=L.dropWhile isDg
theorem tk_dp (L:List UInt8):tkD L++dpD L=L:=List.takeWhile_append_dropWhile
theorem tk_len (L:List UInt8):(tkD L).length≤L.length:=by
 have:=congrArg List.length (tk_dp L);rw [List.length_append] at this;omega
theorem dp_len (L:List UInt8):(dpD L).length+(tkD L).length=L.length:=by
 have:=congrArg List.length (tk_dp L);rw [List.length_append] at this;omega
theorem take_tk (L:List UInt8):L.take (tkD L).length=tkD L:=by
 have h:=List.take_left (l₁:=tkD L) (l₂:=dpD L)
 rw [tk_dp] at h;exact h
theorem drop_tk (L:List UInt8):L.drop (tkD L).length=dpD L:=by
 have h:=List.drop_left (l₁:=tkD L) (l₂:=dpD L)
 rw [tk_dp] at h;exact h
end Go.Ulp
namespace Go.Proofs.YtfphmlmgjhebjaaGreatDoor
open Go.RowKit Go.Ulp
set_option maxHeartbeats 2000000
set_option maxRecDepth 100000
theorem trimDg_any (L:List UInt8) (w:World):
 Calls Tryz.prog 155 #[.string (bsOf L),.string ⟨#[48,49,50,51,52,53,54,55,56,57]⟩] w fun e w'=>e=.returned (.string (bsOf (dpD L)))∧Below w.heap.size w w':=by
 refine (Any.strings_TrimLeft_laid Tryz.lays161 (by kernel_rfl) (bsOf L) ⟨#[48,49,50,51,52,53,54,55,56,57]⟩ w (by decide) (ascii_of_all (by decide))).mono ?_
 rintro e w1 ⟨rfl,hb⟩
 refine ⟨?_,hb⟩
 rw [bs_list]
 have:Lib.trimLeftS L [48,49,50,51,52,53,54,55,56,57]=dpD L:=by
  unfold Lib.trimLeftS dpD
  congr 1
  funext b;exact dg_contains b
 exact ret_bs this
theorem trimZ_any (L:List UInt8) (w:World):
 Calls Tryz.prog 155 #[.string (bsOf L),.string ⟨#[48]⟩] w fun e w'=>e=.returned (.string (bsOf (L.dropWhile fun b=>b==48)))∧w=w':=by
 refine (Tryz.strings_TrimLeft_one (bsOf L) 48 (by decide) w).mono ?_
 rintro e w1 ⟨h1,rfl⟩
 refine ⟨?_,rfl⟩
 rw [bs_list] at h1
 rw [h1]
 exact ret_bs (by first|rfl|(unfold Lib.trimLeftB;rfl))
theorem digitsP_any (L:List UInt8) (w:World) (hl:L.length≤1000000):
 Calls Tryz.prog 153 #[.string (bsOf L)] w fun e w'=>e=.returned (.int .i64 ((tkD L).length:Int))∧Below w.heap.size w w':=by
 have TD:=hid (trimDg_any L)
 have hd:=dp_len L
 have hs1:(bsOf L).size=L.length:=bs_size L
 have hs2:(bsOf (dpD L)).size=(dpD L).length:=bs_size _
 have hw:IntKind.i64.wrap ((L.length:Int)-((dpD L).length:Int))=((tkD L).length:Int):=by rw [IntWalk.i64_in _ (by omega)];omega
 generalize dpD L=R at *
 generalize (tkD L).length=n at *
 clear hd
 go_enter Tryz.func153,Tryz.ntmps153
 go_wp2_with (go_at_call 155;(with_reducible refine (TD.out _).mono ?_);rintro en w1 ⟨rfl,hb1⟩)
 go_ret
 exact ⟨rfl,hb1⟩
end Go.Proofs.YtfphmlmgjhebjaaGreatDoor
namespace Go.Ulp
open Go.RowKit
def dvA (acc:Nat) (L:List UInt8):Nat:=L.foldl (fun a b=>a*10+(b.toNat-48)) acc
def dvl (L:List UInt8):Nat:=dvA 0 L
def AllDg (L:List UInt8):Prop:= ∀b∈L,isDg b=true
theorem dvA_cons (acc:Nat) (b:UInt8) (r:List UInt8):dvA acc (b::r)=dvA (acc*10+(b.toNat-48)) r:=by unfold dvA;rw [List.foldl_cons]
theorem dvA_app (acc:Nat) (A B:List UInt8):dvA acc (A++B)=dvA (dvA acc A) B:=by unfold dvA;rw [List.foldl_append]
theorem dvl_cons (b:UInt8) (r:List UInt8):dvl (b::r)=dvA (b.toNat-48) r:=by unfold dvl;rw [dvA_cons,Nat.zero_mul,Nat.zero_add]
theorem dvA_acc (L:List UInt8): ∀(acc:Nat),dvA acc L=acc*10^L.length+dvl L:=by
 induction L with
 |nil=>intro acc;rw [List.length_nil,Nat.pow_zero,Nat.mul_one];rfl
 |cons b r ih=>
  intro acc
  rw [dvA_cons,ih,dvl_cons,ih,List.length_cons,Nat.pow_succ,Nat.add_mul,Nat.mul_assoc,Nat.mul_comm 10,Nat.add_assoc]
theorem dg_bd {b:UInt8} (h:isDg b=true):48≤b.toNat∧b.toNat≤57:=of_decide_eq_true h
theorem AllDg.tail {b:UInt8} {r:List UInt8} (h:AllDg (b::r)):AllDg r:=fun x hx=>h x (List.mem_cons_of_mem _ hx)
theorem dvl_lt: ∀(L:List UInt8),AllDg L→dvl L<10^L.length
 | [],_=>by show 0<1;omega
 |b::r,h=>by
  have h1:=dvl_lt r h.tail
  have h2:=dg_bd (h b (List.mem_cons_self ..))
  rw [dvl_cons,dvA_acc,List.length_cons,Nat.pow_succ]
  have h3:(b.toNat-48)*10^r.length≤9*10^r.length:=Nat.mul_le_mul_right _ (by omega)
  omega
theorem dvl_ge (b:UInt8) (r:List UInt8) (h:AllDg (b::r)) (h0:b≠48):10^r.length≤dvl (b::r):=by
 have h2:=dg_bd (h b (List.mem_cons_self ..))
 have h4:b.toNat≠48:=fun h9=>h0 (UInt8.toNat_inj.1 (by rw [h9];rfl))
 rw [dvl_cons,dvA_acc]
 have h3:1*10^r.length≤(b.toNat-48)*10^r.length:=Nat.mul_le_mul_right _ (by omega)
 omega
theorem decFrom_dv: ∀(L:List UInt8) (acc:Nat),AllDg L→Lib.decFrom acc L=some (dvA acc L)
 | [],acc,_=>rfl
 |b::r,acc,h=>by
  have h2:=dg_bd (h b (List.mem_cons_self ..))
  show (match Lib.digitVal b with|some d=>Lib.decFrom (acc*10+d) r|none=>none)=_
  rw [show Lib.digitVal b=some (b.toNat-48) by unfold Lib.digitVal;rw [if_pos h2]]
  exact decFrom_dv r _ h.tail
theorem atoi_dv (L:List UInt8) (h:AllDg L) (h0:L≠ []):Lib.atoi L=some ((dvl L:Nat):Int):=by
 cases L with
 |nil=>exact absurd rfl h0
 |cons b r=>
  have h2:=dg_bd (h b (List.mem_cons_self ..))
  have e1:(b==45)=false:=beq_eq_false_iff_ne.2 (fun h9=>by rw [h9] at h2;exact absurd h2 (by decide))
  have e2:(b==43)=false:=beq_eq_false_iff_ne.2 (fun h9=>by rw [h9] at h2;exact absurd h2 (by decide))
  unfold Lib.atoi
  simp only [e1,e2,Bool.false_eq_true,if_false]
  unfold Lib.decNat
  rw [if_neg (by simp),decFrom_dv _ _ h]
  rfl
theorem parseM_dv: ∀(L:List UInt8) (acc:Nat),AllDg L→(acc+1)*10^L.length≤1000000000000000000→Lib.parseUintM (2^64-1) acc L=.ok (dvA acc L)
 | [],acc,_,_=>rfl
 |b::r,acc,h,hb=>by
  have h2:=dg_bd (h b (List.mem_cons_self ..))
  rw [List.length_cons,Nat.pow_succ] at hb
  have hp:0<10^r.length:=Nat.pow_pos (by omega)
  have hb2:(acc*10+(b.toNat-48)+1)*10^r.length≤1000000000000000000:=by
   refine Nat.le_trans ?_ hb
   rw [Nat.mul_comm (10^r.length) 10,←Nat.mul_assoc]
   exact Nat.mul_le_mul_right _ (by omega)
  have hb3:acc*10+(b.toNat-48)+1≤1000000000000000000:=Nat.le_trans (Nat.le_mul_of_pos_right _ hp) hb2
  rw [Lib.parseUintM,if_pos h2,if_neg (by omega),if_neg (by omega)]
  exact parseM_dv r _ h.tail hb2
theorem parse_dv (L:List UInt8) (h:AllDg L) (h0:L≠ []) (hl:L.length≤18):Lib.parseUintB 64 L=.ok (dvl L):=by
 unfold Lib.parseUintB
 rw [if_neg h0]
 refine parseM_dv L 0 h ?_
 have:10^L.length≤10^18:=Nat.pow_le_pow_right (by omega) hl
 omega
theorem all_tk (L:List UInt8):AllDg (tkD L):=fun b hb=>by
 unfold tkD at hb
 exact (List.all_eq_true.1 (List.all_takeWhile (p:=isDg) (l:=L))) b hb
theorem all_of_len {L:List UInt8} (h:(tkD L).length=L.length):AllDg L:=by
 have h1:=take_tk L
 rw [h,List.take_length] at h1
 rw [h1];exact all_tk L
def sgnP (r:List UInt8):Bool:=Lib.hasPrefix r [45]
def sgS (r:List UInt8):List UInt8:=if (sgnP r||Lib.hasPrefix r [43])=true then r.drop 1 else r
def okX (s:List UInt8):Bool:=decide (1≤(tkD s).length∧(tkD s).length≤6∧(tkD s).length=s.length)
def xpV (r:List UInt8):Int:=if okX (sgS r)=true then (if sgnP r=true then -((dvl (sgS r):Nat):Int) else ((dvl (sgS r):Nat):Int)) else 0
def isE (c:UInt8):Bool:=c==101||c==69
def pwV (L:List UInt8):Int:=match L with| []=>0|c::r=>if isE c=true then xpV r else 0
def pwO (L:List UInt8):Bool:=match L with| []=>true|c::r=>isE c&&okX (sgS r)
theorem hp_len {r:List UInt8} {c:UInt8} (h:Lib.hasPrefix r [c]=true):1≤r.length:=by
 cases r with
 |nil=>exact absurd h (by simp [Lib.hasPrefix,List.isPrefixOf])
 |cons a t=>rw [List.length_cons];omega
theorem dvl6 (s:List UInt8) (h:okX s=true):dvl s<1000000:=by
 obtain ⟨h1,h2,h3⟩:=of_decide_eq_true h
 have h4:=dvl_lt s (all_of_len h3)
 have h5:10^s.length≤10^6:=Nat.pow_le_pow_right (by omega) (by omega)
 omega
theorem pwV_bd (L:List UInt8): -1000000<pwV L∧pwV L<1000000:=by
 cases L with
 |nil=>show -1000000<(0:Int)∧(0:Int)<1000000;omega
 |cons c r=>
  show -1000000<(if isE c=true then xpV r else 0)∧(if isE c=true then xpV r else 0)<1000000
  split
  ·unfold xpV
   split
   ·rename_i h;have:=dvl6 _ h;split<;>omega
   ·omega
  ·omega
end Go.Ulp
namespace Go.Proofs.YtfphmlmgjhebjaaGreatDoor
open Go.RowKit Go.Ulp
set_option maxHeartbeats 2000000
set_option maxRecDepth 100000
theorem pwr_other (c:UInt8) (r:List UInt8) (w:World) (hl:(c::r).length≤1000000) (h:isE c=false):
 Calls Tryz.prog 154 #[.string (bsOf (c::r))] w fun e w'=>e=.returned (.tuple #[.int .i64 0,.bool false])∧Below w.heap.size w w':=by
 unfold isE at h
 have h1:=(Bool.or_eq_false_iff.1 h).1
 have h2:=(Bool.or_eq_false_iff.1 h).2
 have hix: ∀w,(Instr.index 9 (.string (bsOf (c::r))) (.int .i64 0)).run Tryz.prog w=.ok (.int .u8 (c.toNat:Int)) w:=fun w=>by
  rw [run_index_string _ _ _ _ _ Tryz.underlying9,dif_pos ⟨by omega,by rw [bs_size];simp⟩]
  rfl
 have x1: ¬(c.toNat:Int)=101:=(fun h9=>by
  have:c=101:=UInt8.toNat_inj.1 (by show c.toNat=101;omega)
  rw [this] at h1;exact absurd h1 (by decide))
 have x2: ¬(c.toNat:Int)=69:=(fun h9=>by
  have:c=69:=UInt8.toNat_inj.1 (by show c.toNat=69;omega)
  rw [this] at h2;exact absurd h2 (by decide))
 have hne:(bsOf (c::r)).toList.isEmpty=false:=by rw [bs_toList];rfl
 obtain ⟨Q,hQ⟩: ∃Q,Q=bsOf (c::r):=⟨_,rfl⟩
 rw [←hQ] at hix hne ⊢
 clear hQ h h1 h2
 go_enter Tryz.func154,Tryz.ntmps154
 go_wp2_with fail
 all_goals first
  |(go_ret2;exact ⟨rfl,Below.refl _ _⟩)
  |(exfalso;simp only [beq_iff_eq,bne_iff_ne,ne_eq,Bool.or_eq_true,Bool.and_eq_false_iff,decide_eq_true_eq,beq_eq_false_iff_ne,bne_eq_false_iff_eq] at *;omega)
theorem pwr_core (c:UInt8) (r s':List UInt8) (neg pl:Bool) (n m:Nat) (ok:Bool) (v:Int) (w:World) (hc:isE c=true) (hl:(c::r).length≤1000000)
 (hn:sgnP r=neg) (hp:Lib.hasPrefix r [43]=pl) (hs':sgS r=s') (hn2:(tkD s').length=n) (hm:s'.length=m) (hok:okX s'=ok) (hv:v=if ok=true then (if neg=true then -((dvl s':Nat):Int) else ((dvl s':Nat):Int)) else 0):
 Calls Tryz.prog 154 #[.string (bsOf (c::r))] w fun e w'=>e=.returned (.tuple #[.int .i64 v,.bool ok])∧Below w.heap.size w w':=by
 have hix: ∀w,(Instr.index 9 (.string (bsOf (c::r))) (.int .i64 0)).run Tryz.prog w=.ok (.int .u8 (c.toNat:Int)) w:=fun w=>by
  rw [run_index_string _ _ _ _ _ Tryz.underlying9,dif_pos ⟨by omega,by rw [bs_size];simp⟩]
  rfl
 have hne:(bsOf (c::r)).toList.isEmpty=false:=by rw [bs_toList];rfl
 have hs1:=slice_from (P:=Tryz.prog) Tryz.underlying9 (c::r) 1 (by omega) (by simp;omega)
 rw [show (c::r).drop (1:Int).toNat=r from rfl] at hs1
 have H1:=hid (show ∀w,Calls Tryz.prog 71 #[.string (bsOf r),.string ⟨#[45]⟩] w fun e w'=>e=.returned (.bool neg)∧w'=w from fun w=>by
  have h:=Tryz.strings_HasPrefix (bsOf r) ⟨#[45]⟩ w
  rw [bs_list] at h;rw [←hn];exact h)
 have H2:=hid (show ∀w,Calls Tryz.prog 71 #[.string (bsOf r),.string ⟨#[43]⟩] w fun e w'=>e=.returned (.bool pl)∧w'=w from fun w=>by
  have h:=Tryz.strings_HasPrefix (bsOf r) ⟨#[43]⟩ w
  rw [bs_list] at h;rw [←hp];exact h)
 have hrl:r.length≤1000000:=by rw [List.length_cons] at hl;omega
 have HS2:(neg||pl)=true→ ∀w,(Instr.slice 9 (.string (bsOf r)) (some (.int .i64 1)) none none).run Tryz.prog w=.ok (.string (bsOf s')) w:=fun h w=>by
  have h1:1≤r.length:=by
   rcases Bool.or_eq_true _ _ |>.mp h with h2|h2
   ·rw [←hn] at h2;exact hp_len h2
   ·rw [←hp] at h2;exact hp_len h2
  have e1:s'=r.drop 1:=by rw [←hs'];unfold sgS;rw [hn,hp,if_pos h]
  have:=slice_from (P:=Tryz.prog) Tryz.underlying9 r 1 (by omega) (by omega) w
  rw [this,e1];rfl
 have HS3:(neg||pl)=false→s'=r:=fun h=>by rw [←hs'];unfold sgS;rw [hn,hp,if_neg (by rw [h];decide)]
 have hsl:s'.length≤1000000:=by
  rw [←hs'];unfold sgS;split
  ·rw [List.length_drop];omega
  ·exact hrl
 have DG:=hid (show ∀w,Calls Tryz.prog 153 #[.string (bsOf s')] w fun e w'=>e=.returned (.int .i64 (n:Int))∧Below w.heap.size w w' from fun w=>by rw [←hn2];exact digitsP_any s' w hsl)
 have hsz:(bsOf s').size=m:=by rw [bs_size,hm]
 have hok2:ok=decide (1≤n∧n≤6∧n=m):=by rw [←hok];unfold okX;rw [hn2,hm]
 obtain ⟨d,hd⟩: ∃d,d=dvl s':=⟨_,rfl⟩
 have AT:=hid (show ok=true→ ∀w,Calls Tryz.prog 170 #[.string (bsOf s')] w fun e w'=>e=.returned (.tuple #[.int .i64 (d:Int),.nilIface])∧Below w.heap.size w w' from fun h w=>by
  have h3:=h
  rw [hok2] at h3
  obtain ⟨g1,g2,g3⟩:=of_decide_eq_true h3
  have ha:AllDg s':=all_of_len (by rw [hn2,hm];exact g3)
  refine (Tryz.strconv_Atoi (bsOf s') (d:Int) (by rw [bs_size];omega) (by rw [bs_list,hd];exact atoi_dv s' ha (fun h9=>by rw [h9] at hm;rw [List.length_nil] at hm;omega)) w).mono ?_
  rintro e w1 ⟨rfl,t,rfl⟩
  exact ⟨rfl,Lib.bytesWorld_below _ _ _⟩)
 have hdb:ok=true→d<1000000:=fun h=>by rw [hd];exact dvl6 s' (by rw [hok];exact h)
 rw [←hd] at hv
 obtain ⟨Q,hQ⟩: ∃Q,Q=bsOf (c::r):=⟨_,rfl⟩
 rw [←hQ] at hix hne hs1 ⊢
 obtain ⟨S,hS⟩: ∃S,S=bsOf s':=⟨_,rfl⟩
 rw [←hS] at HS2 DG hsz AT
 have HS4:(neg||pl)=false→bsOf r=S:=fun h=>by rw [hS,HS3 h]
 obtain ⟨R,hR⟩: ∃R,R=bsOf r:=⟨_,rfl⟩
 rw [←hR] at HS2 HS4 H1 H2 hs1
 have HX:((c.toNat:Int)=101)∨((c.toNat:Int)=69):=by
  unfold isE at hc
  rcases Bool.or_eq_true _ _ |>.mp hc with h|h
  ·rw [beq_iff_eq.1 h];exact .inl rfl
  ·rw [beq_iff_eq.1 h];exact .inr rfl
 have h69:((69:Int) !=101)=true:=rfl
 clear hQ hS hR hd HS3 hn hp hs' hn2 hm hok hl hrl hsl hc
 obtain ⟨x,hx⟩: ∃x,x=(c.toNat:Int):=⟨_,rfl⟩
 rw [←hx] at HX hix
 clear hx
 cases neg
 ·cases pl
  ·have e1:=HS4 rfl
   subst e1
   clear HS2 HS4
   cases ok
   ·rw [if_neg (by simp)] at hv
    subst hv
    have hno: ¬(1≤n∧n≤6∧n=m):=of_decide_eq_false hok2.symm
    clear hok2 AT hdb
    rcases HX with rfl|rfl
    ·go_enter Tryz.func154,Tryz.ntmps154
     go_wp2_with (first|(go_at_call 71;first|((with_reducible refine (H1.out _).mono ?_);rintro en w1 ⟨rfl,rfl⟩)|((with_reducible refine (H2.out _).mono ?_);rintro en w1 ⟨rfl,rfl⟩))|(go_at_call 153;(with_reducible refine (DG.out _).mono ?_);rintro en w1 ⟨rfl,hb1⟩)|(go_at_call 170;(with_reducible refine (AT.out _).mono ?_);rintro en w2 ⟨rfl,hb2⟩))
     all_goals first
      |(go_ret2;exact ⟨rfl,hb1⟩)
      |(exfalso;simp only [beq_iff_eq,bne_iff_ne,ne_eq,Bool.or_eq_true,decide_eq_true_eq,beq_eq_false_iff_ne,bne_eq_false_iff_eq] at *;omega)
    ·go_enter Tryz.func154,Tryz.ntmps154
     go_wp2_with (first|(go_at_call 71;first|((with_reducible refine (H1.out _).mono ?_);rintro en w1 ⟨rfl,rfl⟩)|((with_reducible refine (H2.out _).mono ?_);rintro en w1 ⟨rfl,rfl⟩))|(go_at_call 153;(with_reducible refine (DG.out _).mono ?_);rintro en w1 ⟨rfl,hb1⟩)|(go_at_call 170;(with_reducible refine (AT.out _).mono ?_);rintro en w2 ⟨rfl,hb2⟩))
     all_goals first
      |(go_ret2;exact ⟨rfl,hb1⟩)
      |(exfalso;simp only [beq_iff_eq,bne_iff_ne,ne_eq,Bool.or_eq_true,decide_eq_true_eq,beq_eq_false_iff_ne,bne_eq_false_iff_eq] at *;omega)
   ·rw [if_pos rfl] at hv
    have hdb:=hdb rfl
    replace AT:=hid (AT.out rfl)
    obtain ⟨g1,g2,g3⟩:1≤n∧n≤6∧n=m:=of_decide_eq_true hok2.symm
    subst g3
    clear hok2
    have b1:((n:Int)==0)=false:=beq_eq_false_iff_ne.2 (by omega)
    rcases HX with rfl|rfl
    ·go_enter Tryz.func154,Tryz.ntmps154
     go_wp2_with (first|(go_at_call 71;first|((with_reducible refine (H1.out _).mono ?_);rintro en w1 ⟨rfl,rfl⟩)|((with_reducible refine (H2.out _).mono ?_);rintro en w1 ⟨rfl,rfl⟩))|(go_at_call 153;(with_reducible refine (DG.out _).mono ?_);rintro en w1 ⟨rfl,hb1⟩)|(go_at_call 170;(with_reducible refine (AT.out _).mono ?_);rintro en w2 ⟨rfl,hb2⟩))
     all_goals first
      |(go_ret2;exact ⟨by rw [hv];rfl,below_trans hb1 hb2⟩)
      |(exfalso;simp only [beq_iff_eq,bne_iff_ne,ne_eq,Bool.or_eq_true,decide_eq_true_eq,beq_eq_false_iff_ne,bne_eq_false_iff_eq] at *;omega)
    ·go_enter Tryz.func154,Tryz.ntmps154
     go_wp2_with (first|(go_at_call 71;first|((with_reducible refine (H1.out _).mono ?_);rintro en w1 ⟨rfl,rfl⟩)|((with_reducible refine (H2.out _).mono ?_);rintro en w1 ⟨rfl,rfl⟩))|(go_at_call 153;(with_reducible refine (DG.out _).mono ?_);rintro en w1 ⟨rfl,hb1⟩)|(go_at_call 170;(with_reducible refine (AT.out _).mono ?_);rintro en w2 ⟨rfl,hb2⟩))
     all_goals first
      |(go_ret2;exact ⟨by rw [hv];rfl,below_trans hb1 hb2⟩)
      |(exfalso;simp only [beq_iff_eq,bne_iff_ne,ne_eq,Bool.or_eq_true,decide_eq_true_eq,beq_eq_false_iff_ne,bne_eq_false_iff_eq] at *;omega)
  ·have e1:=HS2 rfl
   clear HS2 HS4
   cases ok
   ·rw [if_neg (by simp)] at hv
    subst hv
    have hno: ¬(1≤n∧n≤6∧n=m):=of_decide_eq_false hok2.symm
    clear hok2 AT hdb
    rcases HX with rfl|rfl
    ·go_enter Tryz.func154,Tryz.ntmps154
     go_wp2_with (first|(go_at_call 71;first|((with_reducible refine (H1.out _).mono ?_);rintro en w1 ⟨rfl,rfl⟩)|((with_reducible refine (H2.out _).mono ?_);rintro en w1 ⟨rfl,rfl⟩))|(go_at_call 153;(with_reducible refine (DG.out _).mono ?_);rintro en w1 ⟨rfl,hb1⟩)|(go_at_call 170;(with_reducible refine (AT.out _).mono ?_);rintro en w2 ⟨rfl,hb2⟩))
     all_goals first
      |(go_ret2;exact ⟨rfl,hb1⟩)
      |(exfalso;simp only [beq_iff_eq,bne_iff_ne,ne_eq,Bool.or_eq_true,decide_eq_true_eq,beq_eq_false_iff_ne,bne_eq_false_iff_eq] at *;omega)
    ·go_enter Tryz.func154,Tryz.ntmps154
     go_wp2_with (first|(go_at_call 71;first|((with_reducible refine (H1.out _).mono ?_);rintro en w1 ⟨rfl,rfl⟩)|((with_reducible refine (H2.out _).mono ?_);rintro en w1 ⟨rfl,rfl⟩))|(go_at_call 153;(with_reducible refine (DG.out _).mono ?_);rintro en w1 ⟨rfl,hb1⟩)|(go_at_call 170;(with_reducible refine (AT.out _).mono ?_);rintro en w2 ⟨rfl,hb2⟩))
     all_goals first
      |(go_ret2;exact ⟨rfl,hb1⟩)
      |(exfalso;simp only [beq_iff_eq,bne_iff_ne,ne_eq,Bool.or_eq_true,decide_eq_true_eq,beq_eq_false_iff_ne,bne_eq_false_iff_eq] at *;omega)
   ·rw [if_pos rfl] at hv
    have hdb:=hdb rfl
    replace AT:=hid (AT.out rfl)
    obtain ⟨g1,g2,g3⟩:1≤n∧n≤6∧n=m:=of_decide_eq_true hok2.symm
    subst g3
    clear hok2
    have b1:((n:Int)==0)=false:=beq_eq_false_iff_ne.2 (by omega)
    rcases HX with rfl|rfl
    ·go_enter Tryz.func154,Tryz.ntmps154
     go_wp2_with (first|(go_at_call 71;first|((with_reducible refine (H1.out _).mono ?_);rintro en w1 ⟨rfl,rfl⟩)|((with_reducible refine (H2.out _).mono ?_);rintro en w1 ⟨rfl,rfl⟩))|(go_at_call 153;(with_reducible refine (DG.out _).mono ?_);rintro en w1 ⟨rfl,hb1⟩)|(go_at_call 170;(with_reducible refine (AT.out _).mono ?_);rintro en w2 ⟨rfl,hb2⟩))
     all_goals first
      |(go_ret2;exact ⟨by rw [hv];rfl,below_trans hb1 hb2⟩)
      |(exfalso;simp only [beq_iff_eq,bne_iff_ne,ne_eq,Bool.or_eq_true,decide_eq_true_eq,beq_eq_false_iff_ne,bne_eq_false_iff_eq] at *;omega)
    ·go_enter Tryz.func154,Tryz.ntmps154
     go_wp2_with (first|(go_at_call 71;first|((with_reducible refine (H1.out _).mono ?_);rintro en w1 ⟨rfl,rfl⟩)|((with_reducible refine (H2.out _).mono ?_);rintro en w1 ⟨rfl,rfl⟩))|(go_at_call 153;(with_reducible refine (DG.out _).mono ?_);rintro en w1 ⟨rfl,hb1⟩)|(go_at_call 170;(with_reducible refine (AT.out _).mono ?_);rintro en w2 ⟨rfl,hb2⟩))
     all_goals first
      |(go_ret2;exact ⟨by rw [hv];rfl,below_trans hb1 hb2⟩)
      |(exfalso;simp only [beq_iff_eq,bne_iff_ne,ne_eq,Bool.or_eq_true,decide_eq_true_eq,beq_eq_false_iff_ne,bne_eq_false_iff_eq] at *;omega)
 ·have e1:=HS2 rfl
  clear HS2 HS4
  have hw:IntKind.i64.wrap (-(d:Int))= -(d:Int)∨ok=false:=by
   cases ok
   ·exact .inr rfl
   ·have:=hdb rfl
    exact .inl (IntWalk.i64_in _ (by omega))
  cases ok
  ·rw [if_neg (by simp)] at hv
   subst hv
   have hno: ¬(1≤n∧n≤6∧n=m):=of_decide_eq_false hok2.symm
   clear hok2 AT hdb
   rcases HX with rfl|rfl
   ·go_enter Tryz.func154,Tryz.ntmps154
    go_wp2_with (first|(go_at_call 71;first|((with_reducible refine (H1.out _).mono ?_);rintro en w1 ⟨rfl,rfl⟩)|((with_reducible refine (H2.out _).mono ?_);rintro en w1 ⟨rfl,rfl⟩))|(go_at_call 153;(with_reducible refine (DG.out _).mono ?_);rintro en w1 ⟨rfl,hb1⟩)|(go_at_call 170;(with_reducible refine (AT.out _).mono ?_);rintro en w2 ⟨rfl,hb2⟩))
    all_goals first
     |(go_ret2;exact ⟨rfl,hb1⟩)
     |(exfalso;simp only [beq_iff_eq,bne_iff_ne,ne_eq,Bool.or_eq_true,decide_eq_true_eq,beq_eq_false_iff_ne,bne_eq_false_iff_eq] at *;omega)
   ·go_enter Tryz.func154,Tryz.ntmps154
    go_wp2_with (first|(go_at_call 71;first|((with_reducible refine (H1.out _).mono ?_);rintro en w1 ⟨rfl,rfl⟩)|((with_reducible refine (H2.out _).mono ?_);rintro en w1 ⟨rfl,rfl⟩))|(go_at_call 153;(with_reducible refine (DG.out _).mono ?_);rintro en w1 ⟨rfl,hb1⟩)|(go_at_call 170;(with_reducible refine (AT.out _).mono ?_);rintro en w2 ⟨rfl,hb2⟩))
    all_goals first
     |(go_ret2;exact ⟨rfl,hb1⟩)
     |(exfalso;simp only [beq_iff_eq,bne_iff_ne,ne_eq,Bool.or_eq_true,decide_eq_true_eq,beq_eq_false_iff_ne,bne_eq_false_iff_eq] at *;omega)
  ·rw [if_pos rfl] at hv
   have hdb:=hdb rfl
   replace AT:=hid (AT.out rfl)
   obtain ⟨g1,g2,g3⟩:1≤n∧n≤6∧n=m:=of_decide_eq_true hok2.symm
   subst g3
   clear hok2
   have b1:((n:Int)==0)=false:=beq_eq_false_iff_ne.2 (by omega)
   rcases HX with rfl|rfl
   ·go_enter Tryz.func154,Tryz.ntmps154
    go_wp2_with (first|(go_at_call 71;first|((with_reducible refine (H1.out _).mono ?_);rintro en w1 ⟨rfl,rfl⟩)|((with_reducible refine (H2.out _).mono ?_);rintro en w1 ⟨rfl,rfl⟩))|(go_at_call 153;(with_reducible refine (DG.out _).mono ?_);rintro en w1 ⟨rfl,hb1⟩)|(go_at_call 170;(with_reducible refine (AT.out _).mono ?_);rintro en w2 ⟨rfl,hb2⟩))
    all_goals first
     |(go_ret2;exact ⟨by rw [hv];rfl,below_trans hb1 hb2⟩)
     |(exfalso;simp only [beq_iff_eq,bne_iff_ne,ne_eq,Bool.or_eq_true,decide_eq_true_eq,beq_eq_false_iff_ne,bne_eq_false_iff_eq] at *;omega)
   ·go_enter Tryz.func154,Tryz.ntmps154
    go_wp2_with (first|(go_at_call 71;first|((with_reducible refine (H1.out _).mono ?_);rintro en w1 ⟨rfl,rfl⟩)|((with_reducible refine (H2.out _).mono ?_);rintro en w1 ⟨rfl,rfl⟩))|(go_at_call 153;(with_reducible refine (DG.out _).mono ?_);rintro en w1 ⟨rfl,hb1⟩)|(go_at_call 170;(with_reducible refine (AT.out _).mono ?_);rintro en w2 ⟨rfl,hb2⟩))
    all_goals first
     |(go_ret2;exact ⟨by rw [hv];rfl,below_trans hb1 hb2⟩)
     |(exfalso;simp only [beq_iff_eq,bne_iff_ne,ne_eq,Bool.or_eq_true,decide_eq_true_eq,beq_eq_false_iff_ne,bne_eq_false_iff_eq] at *;omega)
theorem powerP_any (L:List UInt8) (w:World) (hl:L.length≤1000000):
 Calls Tryz.prog 154 #[.string (bsOf L)] w fun e w'=>e=.returned (.tuple #[.int .i64 (pwV L),.bool (pwO L)])∧Below w.heap.size w w':=by
 cases L with
 |nil=>
  have hne:(bsOf []).toList.isEmpty=true:=by rw [bs_toList];rfl
  show Calls Tryz.prog 154 #[.string (bsOf [])] w fun e w'=>e=.returned (.tuple #[.int .i64 0,.bool true])∧Below w.heap.size w w'
  obtain ⟨Q,hQ⟩: ∃Q,Q=bsOf []:=⟨_,rfl⟩
  rw [←hQ] at hne ⊢
  clear hQ
  go_enter Tryz.func154,Tryz.ntmps154
  go_wp2_with fail
  go_ret2
  exact ⟨rfl,Below.refl _ _⟩
 |cons c r=>
  cases hc:isE c
  ·have h:=pwr_other c r w hl hc
   rw [show pwV (c::r)=0 by show (if isE c=true then xpV r else 0)=0;rw [hc];rfl,show pwO (c::r)=false by show (isE c&&okX (sgS r))=false;rw [hc];rfl]
   exact h
  ·have h:=pwr_core c r (sgS r) (sgnP r) (Lib.hasPrefix r [43]) _ _ (okX (sgS r)) (xpV r) w hc hl rfl rfl rfl rfl rfl rfl rfl
   rw [show pwV (c::r)=xpV r by show (if isE c=true then xpV r else 0)=_;rw [hc,if_pos rfl],show pwO (c::r)=okX (sgS r) by show (isE c&&okX (sgS r))=_;rw [hc];rfl]
   exact h
end Go.Proofs.YtfphmlmgjhebjaaGreatDoor
namespace Go.Proofs
open Go.Shelf
def Tryz.laysPu14_ren:Go.Shelf.Ren:=⟨fun|14=>171|16=>230|17=>229|19=>251|20=>252|21=>247|22=>248|23=>249|24=>250|25=>263|27=>168|26=>264|28=>227|29=>245|30=>259|31=>260|32=>261|33=>262|35=>266|34=>265|36=>267|37=>268|38=>269|39=>219|40=>270|n=>n,fun|9=>9|3=>3|22=>22|24=>166|25=>201|4=>4|34=>263|5=>5|36=>62|37=>105|0=>0|39=>266|21=>21|44=>278|47=>220|50=>290|48=>288|2=>2|52=>273|55=>275|59=>285|60=>181|20=>20|61=>286|65=>261|66=>291|67=>170|n=>n,fun|0=>2|1=>3|2=>6|3=>1|4=>7|n=>n⟩
theorem Tryz.laysPu14:LaysPu.n14 Tryz.prog Tryz.laysPu14_ren:= {
 mixed:=by kernel_rfl
 f14:=Tryz.func171.trans (congrArg some (by kernel_rfl))
 f16:=Tryz.func230.trans (congrArg some (by kernel_rfl))
 f17:=Tryz.func229.trans (congrArg some (by kernel_rfl))
 f19:=Tryz.func251.trans (congrArg some (by kernel_rfl))
 f20:=Tryz.func252.trans (congrArg some (by kernel_rfl))
 f21:=Tryz.func247.trans (congrArg some (by kernel_rfl))
 f22:=Tryz.func248.trans (congrArg some (by kernel_rfl))
 f23:=Tryz.func249.trans (congrArg some (by kernel_rfl))
 f24:=Tryz.func250.trans (congrArg some (by kernel_rfl))
 f25:=Tryz.func263.trans (congrArg some (by kernel_rfl))
 f26:=Tryz.func264.trans (congrArg some (by kernel_rfl))
 f27:=Tryz.func168.trans (congrArg some (by kernel_rfl))
 f28:=Tryz.func227.trans (congrArg some (by kernel_rfl))
 f29:=Tryz.func245.trans (congrArg some (by kernel_rfl))
 f30:=Tryz.func259.trans (congrArg some (by kernel_rfl))
 f31:=Tryz.func260.trans (congrArg some (by kernel_rfl))
 f32:=Tryz.func261.trans (congrArg some (by kernel_rfl))
 f33:=Tryz.func262.trans (congrArg some (by kernel_rfl))
 f34:=Tryz.func265.trans (congrArg some (by kernel_rfl))
 f35:=Tryz.func266.trans (congrArg some (by kernel_rfl))
 f36:=Tryz.func267.trans (congrArg some (by kernel_rfl))
 f37:=Tryz.func268.trans (congrArg some (by kernel_rfl))
 f38:=Tryz.func269.trans (congrArg some (by kernel_rfl))
 f39:=Tryz.func219.trans (congrArg some (by kernel_rfl))
 f40:=Tryz.func270.trans (congrArg some (by kernel_rfl))
 t0:=Tryz.underlying0
 a0:=Tryz.isAgg0
 z0:=Tryz.sizeOf0
 v0:=Tryz.zeroValue0
 i0:=by kernel_rfl
 t2:=Tryz.underlying2
 a2:=Tryz.isAgg2
 z2:=Tryz.sizeOf2
 v2:=Tryz.zeroValue2
 i2:=by kernel_rfl
 t3:=Tryz.underlying3
 a3:=Tryz.isAgg3
 z3:=Tryz.sizeOf3
 v3:=Tryz.zeroValue3
 i3:=by kernel_rfl
 t4:=Tryz.underlying4
 a4:=Tryz.isAgg4
 z4:=Tryz.sizeOf4
 v4:=Tryz.zeroValue4
 i4:=by kernel_rfl
 t5:=Tryz.underlying5
 a5:=Tryz.isAgg5
 z5:=Tryz.sizeOf5
 v5:=Tryz.zeroValue5
 i5:=by kernel_rfl
 t9:=Tryz.underlying9
 a9:=Tryz.isAgg9
 z9:=Tryz.sizeOf9
 v9:=Tryz.zeroValue9
 i9:=by kernel_rfl
 t20:=Tryz.underlying20
 a20:=Tryz.isAgg20
 z20:=Tryz.sizeOf20
 v20:=Tryz.zeroValue20
 i20:=by kernel_rfl
 t21:=Tryz.underlying21
 a21:=Tryz.isAgg21
 z21:=Tryz.sizeOf21
 v21:=Tryz.zeroValue21
 i21:=by kernel_rfl
 t22:=Tryz.underlying22
 a22:=Tryz.isAgg22
 z22:=Tryz.sizeOf22
 v22:=Tryz.zeroValue22
 i22:=by kernel_rfl
 t24:=Tryz.underlying166
 a24:=Tryz.isAgg166
 z24:=Tryz.sizeOf166
 v24:=Tryz.zeroValue166
 i24:=by kernel_rfl
 t25:=Tryz.underlying201
 a25:=Tryz.isAgg201
 z25:=Tryz.sizeOf201
 v25:=Tryz.zeroValue201
 i25:=by kernel_rfl
 t34:=Tryz.underlying263
 a34:=Tryz.isAgg263
 z34:=Tryz.sizeOf263
 v34:=Tryz.zeroValue263
 i34:=by kernel_rfl
 c34:=by kernel_rfl
 t36:=Tryz.underlying62
 a36:=Tryz.isAgg62
 z36:=Tryz.sizeOf62
 v36:=Tryz.zeroValue62
 i36:=by kernel_rfl
 t37:=Tryz.underlying105
 a37:=Tryz.isAgg105
 z37:=Tryz.sizeOf105
 v37:=Tryz.zeroValue105
 i37:=by kernel_rfl
 t39:=Tryz.underlying266
 a39:=Tryz.isAgg266
 z39:=Tryz.sizeOf266
 v39:=Tryz.zeroValue266
 i39:=by kernel_rfl
 t44:=Tryz.underlying278
 a44:=Tryz.isAgg278
 z44:=Tryz.sizeOf278
 v44:=Tryz.zeroValue278
 i44:=by kernel_rfl
 t47:=Tryz.underlying220
 a47:=Tryz.isAgg220
 z47:=Tryz.sizeOf220
 v47:=Tryz.zeroValue220
 i47:=by kernel_rfl
 t48:=Tryz.underlying288
 a48:=Tryz.isAgg288
 z48:=Tryz.sizeOf288
 v48:=Tryz.zeroValue288
 i48:=by kernel_rfl
 t50:=Tryz.underlying290
 a50:=Tryz.isAgg290
 z50:=Tryz.sizeOf290
 v50:=Tryz.zeroValue290
 i50:=by kernel_rfl
 t52:=Tryz.underlying273
 a52:=Tryz.isAgg273
 z52:=Tryz.sizeOf273
 v52:=Tryz.zeroValue273
 i52:=by kernel_rfl
 t55:=Tryz.underlying275
 a55:=Tryz.isAgg275
 z55:=Tryz.sizeOf275
 v55:=Tryz.zeroValue275
 i55:=by kernel_rfl
 t59:=Tryz.underlying285
 a59:=Tryz.isAgg285
 z59:=Tryz.sizeOf285
 v59:=Tryz.zeroValue285
 i59:=by kernel_rfl
 t60:=Tryz.underlying181
 a60:=Tryz.isAgg181
 z60:=Tryz.sizeOf181
 v60:=Tryz.zeroValue181
 i60:=by kernel_rfl
 t61:=Tryz.underlying286
 a61:=Tryz.isAgg286
 z61:=Tryz.sizeOf286
 t65:=Tryz.underlying261
 a65:=Tryz.isAgg261
 z65:=Tryz.sizeOf261
 v65:=Tryz.zeroValue261
 i65:=by kernel_rfl
 t66:=Tryz.underlying291
 a66:=Tryz.isAgg291
 z66:=Tryz.sizeOf291
 v66:=Tryz.zeroValue291
 i66:=by kernel_rfl
 t67:=Tryz.underlying170
 a67:=Tryz.isAgg170
 z67:=Tryz.sizeOf170
 v67:=Tryz.zeroValue170
 i67:=by kernel_rfl
 g0:=by kernel_rfl
 m0:=by kernel_rfl
 g1:=by kernel_rfl
 m1:=by kernel_rfl
 g2:=by kernel_rfl
 m2:=by kernel_rfl
 g3:=by kernel_rfl
 m3:=by kernel_rfl
 g4:=by kernel_rfl
 m4:=by kernel_rfl}
theorem Tryz.strconv_ParseUint (s:ByteArray) (hmax:s.size≤9223372036854775806) (u:Nat) (h:Lib.parseUintB 64 s.data.toList=.ok u) (w:World):
 Calls Tryz.prog 171 #[.string s,.int .i64 10,.int .i64 64] w fun e w'=>e=.returned (.tuple #[.int .u64 u,.nilIface])∧(w'=w∨w'=Lib.bytesWorld w 5 s):=Any.strconv_ParseUint_10_at64_ok Tryz.laysPu14 s hmax u h w
end Go.Proofs
