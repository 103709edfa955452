/- TopSum: what the proof leans on, part 14 (ShelfT Re3 Re9). -/
import Derived.Shelf.Strings.Builder1
import Derived.Shelf.Strings.Builder2
import Derived.Shelf.Strings.OnBuilder
import Derived.Shelf.Strings.Trim
import Derived.Shelf.Small.Utf8
import Derived.Shelf.Small.Bits
import Derived.Shelf.Small.Strs
import Derived.Shelf.Small.Wraps
import Derived.Shelf.Strings.BuilderF
import Derived.Shelf.Strconv.Atoi
import Derived.Shelf.Strconv.Itoa0
import Derived.Shelf.Strconv.Itoa1
import Derived.Shelf.LaysM
import Derived.Shelf.Strconv.Itoa2
import Derived.Shelf.Strconv.Itoa3
import Derived.Ground.MpProg
import Derived.Shelf.Pu.ParseUintPublic10
import Derived.Shelf.Strings.Search1
import Derived.Shelf.Strings.Search2
import Derived.Shelf.Strings.Search3
import Derived.Shelf.Strings.Shaped
import Derived.Shelf.Strings.Prefix
import Derived.Shelf.Strings.Runes
import Derived.Shelf.Strings.AsciiSet
import Derived.Shelf.Bits.Mul64
import Derived.Shelf.Strings.Repeat
import Derived.Shelf.Unicode.DecodeSlow
import Derived.Ground.Names2Prog
import Derived.Shelf.Slices.ReverseS
import Derived.Shelf.Slices.SearchI
import Derived.Shelf.Strings.SlTrimAscii
import Derived.Lib.ParseIntB
import Derived.Lib.AtoiErrMem
import Derived.Test.YtfphmlmgjhebjaaGreatDoorKTopSum3
import Derived.Test.YtfphmlmgjhebjaaGreatDoorKTopSum5
import Derived.Test.YtfphmlmgjhebjaaGreatDoorKTopSum13
set_option linter.unusedVariables false
set_option linter.unusedSimpArgs false
namespace Go.Proofs
open Go.Shelf
def Tryz.lays161_ren:Go.Shelf.Ren:=⟨fun|161=>155|231=>215|227=>216|233=>217|235=>218|228=>242|197=>243|151=>72|260=>257|152=>134|137=>66|119=>192|224=>193|225=>194|217=>123|266=>181|n=>n,fun|9=>9|4=>4|3=>3|5=>5|117=>239|116=>238|0=>0|124=>242|105=>259|21=>21|119=>280|46=>62|139=>283|138=>282|n=>n,fun|3=>4|4=>5|n=>n⟩
theorem Tryz.lays161:Go.Proofs.Lays.n161 Tryz.prog Tryz.lays161_ren:= {
 mixed:=by kernel_rfl
 f119:=Tryz.func192.trans (congrArg some (by kernel_rfl))
 f137:=Tryz.func66.trans (congrArg some (by kernel_rfl))
 f151:=Tryz.func72.trans (congrArg some (by kernel_rfl))
 f152:=Tryz.func134.trans (congrArg some (by kernel_rfl))
 f161:=Tryz.func155.trans (congrArg some (by kernel_rfl))
 f197:=Tryz.func243.trans (congrArg some (by kernel_rfl))
 f217:=Tryz.func123.trans (congrArg some (by kernel_rfl))
 f224:=Tryz.func193.trans (congrArg some (by kernel_rfl))
 f225:=Tryz.func194.trans (congrArg some (by kernel_rfl))
 f227:=Tryz.func216.trans (congrArg some (by kernel_rfl))
 f228:=Tryz.func242.trans (congrArg some (by kernel_rfl))
 f231:=Tryz.func215.trans (congrArg some (by kernel_rfl))
 f233:=Tryz.func217.trans (congrArg some (by kernel_rfl))
 f235:=Tryz.func218.trans (congrArg some (by kernel_rfl))
 f260:=Tryz.func257.trans (congrArg some (by kernel_rfl))
 f266:=Tryz.func181.trans (congrArg some (by kernel_rfl))
 t0:=Tryz.underlying0
 a0:=Tryz.isAgg0
 z0:=Tryz.sizeOf0
 v0:=Tryz.zeroValue0
 t3:=Tryz.underlying3
 a3:=Tryz.isAgg3
 z3:=Tryz.sizeOf3
 v3:=Tryz.zeroValue3
 t4:=Tryz.underlying4
 a4:=Tryz.isAgg4
 z4:=Tryz.sizeOf4
 v4:=Tryz.zeroValue4
 t5:=Tryz.underlying5
 a5:=Tryz.isAgg5
 z5:=Tryz.sizeOf5
 v5:=Tryz.zeroValue5
 t9:=Tryz.underlying9
 a9:=Tryz.isAgg9
 z9:=Tryz.sizeOf9
 v9:=Tryz.zeroValue9
 t21:=Tryz.underlying21
 a21:=Tryz.isAgg21
 z21:=Tryz.sizeOf21
 v21:=Tryz.zeroValue21
 t46:=Tryz.underlying62
 a46:=Tryz.isAgg62
 z46:=Tryz.sizeOf62
 v46:=Tryz.zeroValue62
 t105:=Tryz.underlying259
 a105:=Tryz.isAgg259
 z105:=Tryz.sizeOf259
 v105:=Tryz.zeroValue259
 t116:=Tryz.underlying238
 a116:=Tryz.isAgg238
 z116:=Tryz.sizeOf238
 t117:=Tryz.underlying239
 a117:=Tryz.isAgg239
 z117:=Tryz.sizeOf239
 v117:=Tryz.zeroValue239
 t119:=Tryz.underlying280
 a119:=Tryz.isAgg280
 z119:=Tryz.sizeOf280
 t124:=Tryz.underlying242
 a124:=Tryz.isAgg242
 z124:=Tryz.sizeOf242
 v124:=Tryz.zeroValue242
 t138:=Tryz.underlying282
 a138:=Tryz.isAgg282
 z138:=Tryz.sizeOf282
 v138:=Tryz.zeroValue282
 t139:=Tryz.underlying283
 a139:=Tryz.isAgg283
 z139:=Tryz.sizeOf283
 v139:=Tryz.zeroValue283
 g3:=by kernel_rfl
 g4:=by kernel_rfl}
open Go.RowKit in
theorem Tryz.strings_TrimLeft_one (s:ByteArray) (c:UInt8) (hc:c.toNat<128) (w:World):
 Calls Tryz.prog 155 #[.string s,.string ⟨#[c]⟩] w fun e w'=>e=.returned (.string ⟨(Lib.trimLeftB s.data.toList c).toArray⟩)∧w'=w:=Any.strings_TrimLeft_one Tryz.lays161 s c hc w
def Tryz.lays103_ren:Go.Shelf.Ren:=⟨fun|103=>64|210=>122|206=>133|n=>n,fun|9=>9|4=>4|24=>94|3=>3|n=>n,fun|n=>n⟩
theorem Tryz.lays103:Go.Proofs.Lays.n103 Tryz.prog Tryz.lays103_ren:= {
 mixed:=by kernel_rfl
 f103:=Tryz.func64.trans (congrArg some (by kernel_rfl))
 f206:=Tryz.func133.trans (congrArg some (by kernel_rfl))
 f210:=Tryz.func122.trans (congrArg some (by kernel_rfl))
 t3:=Tryz.underlying3
 a3:=Tryz.isAgg3
 z3:=Tryz.sizeOf3
 v3:=Tryz.zeroValue3
 t4:=Tryz.underlying4
 a4:=Tryz.isAgg4
 z4:=Tryz.sizeOf4
 v4:=Tryz.zeroValue4
 t9:=Tryz.underlying9
 a9:=Tryz.isAgg9
 z9:=Tryz.sizeOf9
 v9:=Tryz.zeroValue9
 t24:=Tryz.underlying94
 a24:=Tryz.isAgg94
 z24:=Tryz.sizeOf94
 v24:=Tryz.zeroValue94}
open Go.RowKit in
theorem Tryz.strings_CutPrefix (s p:ByteArray) (w:World):
 Calls Tryz.prog 64 #[.string s,.string p] w fun e w'=>e=.returned (.tuple #[.string ⟨(Lib.trimPrefix s.data.toList p.data.toList).toArray⟩,.bool (Lib.hasPrefix s.data.toList p.data.toList)])∧w'=w:=Any.strings_CutPrefix Tryz.lays103 s p w
def Tryz.lays172_ren:Go.Shelf.Ren:=⟨fun|172=>170|244=>228|245=>229|247=>246|279=>247|280=>248|281=>249|282=>250|287=>230|316=>263|171=>168|205=>264|321=>251|322=>252|243=>227|246=>245|283=>259|284=>260|285=>261|286=>262|129=>266|317=>265|318=>267|319=>268|320=>269|337=>219|338=>270|n=>n,fun|9=>9|3=>3|75=>166|76=>167|4=>4|5=>5|167=>263|37=>105|0=>0|85=>264|2=>2|168=>266|53=>22|175=>201|46=>62|210=>278|127=>220|145=>290|143=>288|21=>21|171=>273|173=>275|212=>285|51=>181|20=>20|213=>286|232=>261|233=>291|80=>170|n=>n,fun|15=>2|16=>3|17=>6|18=>1|19=>7|n=>n⟩
theorem Tryz.lays172:Go.Proofs.Lays.n172 Tryz.prog Tryz.lays172_ren:= {
 mixed:=by kernel_rfl
 f129:=Tryz.func266.trans (congrArg some (by kernel_rfl))
 f171:=Tryz.func168.trans (congrArg some (by kernel_rfl))
 f172:=Tryz.func170.trans (congrArg some (by kernel_rfl))
 f205:=Tryz.func264.trans (congrArg some (by kernel_rfl))
 f243:=Tryz.func227.trans (congrArg some (by kernel_rfl))
 f244:=Tryz.func228.trans (congrArg some (by kernel_rfl))
 f245:=Tryz.func229.trans (congrArg some (by kernel_rfl))
 f246:=Tryz.func245.trans (congrArg some (by kernel_rfl))
 f247:=Tryz.func246.trans (congrArg some (by kernel_rfl))
 f279:=Tryz.func247.trans (congrArg some (by kernel_rfl))
 f280:=Tryz.func248.trans (congrArg some (by kernel_rfl))
 f281:=Tryz.func249.trans (congrArg some (by kernel_rfl))
 f282:=Tryz.func250.trans (congrArg some (by kernel_rfl))
 f283:=Tryz.func259.trans (congrArg some (by kernel_rfl))
 f284:=Tryz.func260.trans (congrArg some (by kernel_rfl))
 f285:=Tryz.func261.trans (congrArg some (by kernel_rfl))
 f286:=Tryz.func262.trans (congrArg some (by kernel_rfl))
 f287:=Tryz.func230.trans (congrArg some (by kernel_rfl))
 f316:=Tryz.func263.trans (congrArg some (by kernel_rfl))
 f317:=Tryz.func265.trans (congrArg some (by kernel_rfl))
 f318:=Tryz.func267.trans (congrArg some (by kernel_rfl))
 f319:=Tryz.func268.trans (congrArg some (by kernel_rfl))
 f320:=Tryz.func269.trans (congrArg some (by kernel_rfl))
 f321:=Tryz.func251.trans (congrArg some (by kernel_rfl))
 f322:=Tryz.func252.trans (congrArg some (by kernel_rfl))
 f337:=Tryz.func219.trans (congrArg some (by kernel_rfl))
 f338:=Tryz.func270.trans (congrArg some (by kernel_rfl))
 t0:=Tryz.underlying0
 a0:=Tryz.isAgg0
 z0:=Tryz.sizeOf0
 v0:=Tryz.zeroValue0
 t2:=Tryz.underlying2
 a2:=Tryz.isAgg2
 z2:=Tryz.sizeOf2
 v2:=Tryz.zeroValue2
 t3:=Tryz.underlying3
 a3:=Tryz.isAgg3
 z3:=Tryz.sizeOf3
 v3:=Tryz.zeroValue3
 t4:=Tryz.underlying4
 a4:=Tryz.isAgg4
 z4:=Tryz.sizeOf4
 v4:=Tryz.zeroValue4
 t5:=Tryz.underlying5
 a5:=Tryz.isAgg5
 z5:=Tryz.sizeOf5
 v5:=Tryz.zeroValue5
 t9:=Tryz.underlying9
 a9:=Tryz.isAgg9
 z9:=Tryz.sizeOf9
 v9:=Tryz.zeroValue9
 t20:=Tryz.underlying20
 a20:=Tryz.isAgg20
 z20:=Tryz.sizeOf20
 v20:=Tryz.zeroValue20
 t21:=Tryz.underlying21
 a21:=Tryz.isAgg21
 z21:=Tryz.sizeOf21
 v21:=Tryz.zeroValue21
 t37:=Tryz.underlying105
 a37:=Tryz.isAgg105
 z37:=Tryz.sizeOf105
 v37:=Tryz.zeroValue105
 t46:=Tryz.underlying62
 a46:=Tryz.isAgg62
 z46:=Tryz.sizeOf62
 v46:=Tryz.zeroValue62
 t51:=Tryz.underlying181
 a51:=Tryz.isAgg181
 z51:=Tryz.sizeOf181
 v51:=Tryz.zeroValue181
 t53:=Tryz.underlying22
 a53:=Tryz.isAgg22
 z53:=Tryz.sizeOf22
 v53:=Tryz.zeroValue22
 t75:=Tryz.underlying166
 a75:=Tryz.isAgg166
 z75:=Tryz.sizeOf166
 v75:=Tryz.zeroValue166
 t76:=Tryz.underlying167
 a76:=Tryz.isAgg167
 z76:=Tryz.sizeOf167
 v76:=Tryz.zeroValue167
 t85:=Tryz.underlying264
 a85:=Tryz.isAgg264
 z85:=Tryz.sizeOf264
 v85:=Tryz.zeroValue264
 t127:=Tryz.underlying220
 a127:=Tryz.isAgg220
 z127:=Tryz.sizeOf220
 v127:=Tryz.zeroValue220
 t143:=Tryz.underlying288
 a143:=Tryz.isAgg288
 z143:=Tryz.sizeOf288
 v143:=Tryz.zeroValue288
 t145:=Tryz.underlying290
 a145:=Tryz.isAgg290
 z145:=Tryz.sizeOf290
 v145:=Tryz.zeroValue290
 t167:=Tryz.underlying263
 a167:=Tryz.isAgg263
 z167:=Tryz.sizeOf263
 v167:=Tryz.zeroValue263
 t168:=Tryz.underlying266
 a168:=Tryz.isAgg266
 z168:=Tryz.sizeOf266
 v168:=Tryz.zeroValue266
 t171:=Tryz.underlying273
 a171:=Tryz.isAgg273
 z171:=Tryz.sizeOf273
 v171:=Tryz.zeroValue273
 t173:=Tryz.underlying275
 a173:=Tryz.isAgg275
 z173:=Tryz.sizeOf275
 v173:=Tryz.zeroValue275
 t175:=Tryz.underlying201
 a175:=Tryz.isAgg201
 z175:=Tryz.sizeOf201
 v175:=Tryz.zeroValue201
 t210:=Tryz.underlying278
 a210:=Tryz.isAgg278
 z210:=Tryz.sizeOf278
 v210:=Tryz.zeroValue278
 t212:=Tryz.underlying285
 a212:=Tryz.isAgg285
 z212:=Tryz.sizeOf285
 v212:=Tryz.zeroValue285
 t213:=Tryz.underlying286
 a213:=Tryz.isAgg286
 z213:=Tryz.sizeOf286
 t232:=Tryz.underlying261
 a232:=Tryz.isAgg261
 z232:=Tryz.sizeOf261
 v232:=Tryz.zeroValue261
 t233:=Tryz.underlying291
 a233:=Tryz.isAgg291
 z233:=Tryz.sizeOf291
 v233:=Tryz.zeroValue291
 g15:=by kernel_rfl
 g16:=by kernel_rfl
 g17:=by kernel_rfl
 g18:=by kernel_rfl
 g19:=by kernel_rfl}
open Go.RowKit in
theorem Tryz.strconv_Atoi (s:ByteArray) (n:Int) (hl:s.size≤18) (h:Lib.atoi s.data.toList=some n) (w:World):
 Calls Tryz.prog 170 #[.string s] w fun e w'=>e=.returned (.tuple #[.int .i64 n,.nilIface])∧ ∃t,w'=Lib.bytesWorld w 5 t:=Any.strconv_Atoi Tryz.lays172 s n hl h w
end Go.Proofs
namespace Go.Ulp
open Go.RowKit
def isDg (b:UInt8):Bool:=decide (48≤b.toNat∧b.toNat≤57)
theorem dg_contains (b:UInt8): [48,49,50,51,52,53,54,55,56,57].contains b=isDg b:=by
 have: ∀n:Fin 256,[48,49,50,51,52,53,54,55,56,57].contains (UInt8.ofNat n.1)=isDg (UInt8.ofNat n.1):=by decide+kernel
 have h:=this ⟨b.toNat,b.toNat_lt⟩
 simpa using h
def tkD (L:List UInt8):List UInt8:=L.takeWhile isDg
def dpD (L:List UInt8):List UInt8:=L.dropWhile isDg
theorem tk_dp (L:List UInt8):tkD L++dpD L=L:=List.takeWhile_append_dropWhile
theorem tk_len (L:List UInt8):(tkD L).length≤L.length:=by
 have:=congrArg List.length (tk_dp L);rw [List.length_append] at this;omega
theorem dp_len (L:List UInt8):(dpD L).length+(tkD L).length=L.length:=by
 have:=congrArg List.length (tk_dp L);rw [List.length_append] at this;omega
theorem take_tk (L:List UInt8):L.take (tkD L).length=tkD L:=by
 have h:=List.take_left (l₁:=tkD L) (l₂:=dpD L)
 rw [tk_dp] at h;exact h
theorem drop_tk (L:List UInt8):L.drop (tkD L).length=dpD L:=by
 have h:=List.drop_left (l₁:=tkD L) (l₂:=dpD L)
 rw [tk_dp] at h;exact h
end Go.Ulp
namespace Go.Proofs.YtfphmlmgjhebjaaGreatDoor
open Go.RowKit Go.Ulp
set_option maxHeartbeats 2000000
set_option maxRecDepth 100000
theorem trimDg_any (L:List UInt8) (w:World):
 Calls Tryz.prog 155 #[.string (bsOf L),.string ⟨#[48,49,50,51,52,53,54,55,56,57]⟩] w fun e w'=>e=.returned (.string (bsOf (dpD L)))∧Below w.heap.size w w':=by
 refine (Any.strings_TrimLeft_laid Tryz.lays161 (by kernel_rfl) (bsOf L) ⟨#[48,49,50,51,52,53,54,55,56,57]⟩ w (by decide) (ascii_of_all (by decide))).mono ?_
 rintro e w1 ⟨rfl,hb⟩
 refine ⟨?_,hb⟩
 rw [bs_list]
 have:Lib.trimLeftS L [48,49,50,51,52,53,54,55,56,57]=dpD L:=by
  unfold Lib.trimLeftS dpD
  congr 1
  funext b;exact dg_contains b
 exact ret_bs this
theorem trimZ_any (L:List UInt8) (w:World):
 Calls Tryz.prog 155 #[.string (bsOf L),.string ⟨#[48]⟩] w fun e w'=>e=.returned (.string (bsOf (L.dropWhile fun b=>b==48)))∧w=w':=by
 refine (Tryz.strings_TrimLeft_one (bsOf L) 48 (by decide) w).mono ?_
 rintro e w1 ⟨h1,rfl⟩
 refine ⟨?_,rfl⟩
 rw [bs_list] at h1
 rw [h1]
 exact ret_bs (by first|rfl|(unfold Lib.trimLeftB;rfl))
theorem digitsP_any (L:List UInt8) (w:World) (hl:L.length≤1000000):
 Calls Tryz.prog 153 #[.string (bsOf L)] w fun e w'=>e=.returned (.int .i64 ((tkD L).length:Int))∧Below w.heap.size w w':=by
 have TD:=hid (trimDg_any L)
 have hd:=dp_len L
 have hs1:(bsOf L).size=L.length:=bs_size L
 have hs2:(bsOf (dpD L)).size=(dpD L).length:=bs_size _
 have hw:IntKind.i64.wrap ((L.length:Int)-((dpD L).length:Int))=((tkD L).length:Int):=by rw [IntWalk.i64_in _ (by omega)];omega
 generalize dpD L=R at *
 generalize (tkD L).length=n at *
 clear hd
 go_enter Tryz.func153,Tryz.ntmps153
 go_wp2_with (go_at_call 155;(with_reducible refine (TD.out _).mono ?_);rintro en w1 ⟨rfl,hb1⟩)
 go_ret
 exact ⟨rfl,hb1⟩
end Go.Proofs.YtfphmlmgjhebjaaGreatDoor
namespace Go.Ulp
open Go.RowKit
def dvA (acc:Nat) (L:List UInt8):Nat:=L.foldl (fun a b=>a*10+(b.toNat-48)) acc
def dvl (L:List UInt8):Nat:=dvA 0 L
def AllDg (L:List UInt8):Prop:= ∀b∈L,isDg b=true
theorem dvA_cons (acc:Nat) (b:UInt8) (r:List UInt8):dvA acc (b::r)=dvA (acc*10+(b.toNat-48)) r:=by unfold dvA;rw [List.foldl_cons]
theorem dvA_app (acc:Nat) (A B:List UInt8):dvA acc (A++B)=dvA (dvA acc A) B:=by unfold dvA;rw [List.foldl_append]
theorem dvl_cons (b:UInt8) (r:List UInt8):dvl (b::r)=dvA (b.toNat-48) r:=by unfold dvl;rw [dvA_cons,Nat.zero_mul,Nat.zero_add]
theorem dvA_acc (L:List UInt8): ∀(acc:Nat),dvA acc L=acc*10^L.length+dvl L:=by
 induction L with
 |nil=>intro acc;rw [List.length_nil,Nat.pow_zero,Nat.mul_one];rfl
 |cons b r ih=>
  intro acc
  rw [dvA_cons,ih,dvl_cons,ih,List.length_cons,Nat.pow_succ,Nat.add_mul,Nat.mul_assoc,Nat.mul_comm 10,Nat.add_assoc]
theorem dg_bd {b:UInt8} (h:isDg b=true):48≤b.toNat∧b.toNat≤57:=of_decide_eq_true h
theorem AllDg.tail {b:UInt8} {r:List UInt8} (h:AllDg (b::r)):AllDg r:=fun x hx=>h x (List.mem_cons_of_mem _ hx)
theorem dvl_lt: ∀(L:List UInt8),AllDg L→dvl L<10^L.length
 | [],_=>by show 0<1;omega
 |b::r,h=>by
  have h1:=dvl_lt r h.tail
  have h2:=dg_bd (h b (List.mem_cons_self ..))
  rw [dvl_cons,dvA_acc,List.length_cons,Nat.pow_succ]
  have h3:(b.toNat-48)*10^r.length≤9*10^r.length:=Nat.mul_le_mul_right _ (by omega)
  omega
theorem dvl_ge (b:UInt8) (r:List UInt8) (h:AllDg (b::r)) (h0:b≠48):10^r.length≤dvl (b::r):=by
 have h2:=dg_bd (h b (List.mem_cons_self ..))
 have h4:b.toNat≠48:=fun h9=>h0 (UInt8.toNat_inj.1 (by rw [h9];rfl))
 rw [dvl_cons,dvA_acc]
 have h3:1*10^r.length≤(b.toNat-48)*10^r.length:=Nat.mul_le_mul_right _ (by omega)
 omega
theorem decFrom_dv: ∀(L:List UInt8) (acc:Nat),AllDg L→Lib.decFrom acc L=some (dvA acc L)
 | [],acc,_=>rfl
 |b::r,acc,h=>by
  have h2:=dg_bd (h b (List.mem_cons_self ..))
  show (match Lib.digitVal b with|some d=>Lib.decFrom (acc*10+d) r|none=>none)=_
  rw [show Lib.digitVal b=some (b.toNat-48) by unfold Lib.digitVal;rw [if_pos h2]]
  exact decFrom_dv r _ h.tail
theorem atoi_dv (L:List UInt8) (h:AllDg L) (h0:L≠ []):Lib.atoi L=some ((dvl L:Nat):Int):=by
 cases L with
 |nil=>exact absurd rfl h0
 |cons b r=>
  have h2:=dg_bd (h b (List.mem_cons_self ..))
  have e1:(b==45)=false:=beq_eq_false_iff_ne.2 (fun h9=>by rw [h9] at h2;exact absurd h2 (by decide))
  have e2:(b==43)=false:=beq_eq_false_iff_ne.2 (fun h9=>by rw [h9] at h2;exact absurd h2 (by decide))
  unfold Lib.atoi
  simp only [e1,e2,Bool.false_eq_true,if_false]
  unfold Lib.decNat
  rw [if_neg (by simp),decFrom_dv _ _ h]
  rfl
theorem parseM_dv: ∀(L:List UInt8) (acc:Nat),AllDg L→(acc+1)*10^L.length≤1000000000000000000→Lib.parseUintM (2^64-1) acc L=.ok (dvA acc L)
 | [],acc,_,_=>rfl
 |b::r,acc,h,hb=>by
  have h2:=dg_bd (h b (List.mem_cons_self ..))
  rw [List.length_cons,Nat.pow_succ] at hb
  have hp:0<10^r.length:=Nat.pow_pos (by omega)
  have hb2:(acc*10+(b.toNat-48)+1)*10^r.length≤1000000000000000000:=by
   refine Nat.le_trans ?_ hb
   rw [Nat.mul_comm (10^r.length) 10,←Nat.mul_assoc]
   exact Nat.mul_le_mul_right _ (by omega)
  have hb3:acc*10+(b.toNat-48)+1≤1000000000000000000:=Nat.le_trans (Nat.le_mul_of_pos_right _ hp) hb2
  rw [Lib.parseUintM,if_pos h2,if_neg (by omega),if_neg (by omega)]
  exact parseM_dv r _ h.tail hb2
theorem parse_dv (L:List UInt8) (h:AllDg L) (h0:L≠ []) (hl:L.length≤18):Lib.parseUintB 64 L=.ok (dvl L):=by
 unfold Lib.parseUintB
 rw [if_neg h0]
 refine parseM_dv L 0 h ?_
 have:10^L.length≤10^18:=Nat.pow_le_pow_right (by omega) hl
 omega
theorem all_tk (L:List UInt8):AllDg (tkD L):=fun b hb=>by
 unfold tkD at hb
 exact (List.all_eq_true.1 (List.all_takeWhile (p:=isDg) (l:=L))) b hb
theorem all_of_len {L:List UInt8} (h:(tkD L).length=L.length):AllDg L:=by
 have h1:=take_tk L
 rw [h,List.take_length] at h1
 rw [h1];exact all_tk L
def sgnP (r:List UInt8):Bool:=Lib.hasPrefix r [45]
def sgS (r:List UInt8):List UInt8:=if (sgnP r||Lib.hasPrefix r [43])=true then r.drop 1 else r
def okX (s:List UInt8):Bool:=decide (1≤(tkD s).length∧(tkD s).length≤6∧(tkD s).length=s.length)
def xpV (r:List UInt8):Int:=if okX (sgS r)=true then (if sgnP r=true then -((dvl (sgS r):Nat):Int) else ((dvl (sgS r):Nat):Int)) else 0
def isE (c:UInt8):Bool:=c==101||c==69
def pwV (L:List UInt8):Int:=match L with| []=>0|c::r=>if isE c=true then xpV r else 0
def pwO (L:List UInt8):Bool:=match L with| []=>true|c::r=>isE c&&okX (sgS r)
theorem hp_len {r:List UInt8} {c:UInt8} (h:Lib.hasPrefix r [c]=true):1≤r.length:=by
 cases r with
 |nil=>exact absurd h (by simp [Lib.hasPrefix,List.isPrefixOf])
 |cons a t=>rw [List.length_cons];omega
theorem dvl6 (s:List UInt8) (h:okX s=true):dvl s<1000000:=by
 obtain ⟨h1,h2,h3⟩:=of_decide_eq_true h
 have h4:=dvl_lt s (all_of_len h3)
 have h5:10^s.length≤10^6:=Nat.pow_le_pow_right (by omega) (by omega)
 omega
theorem pwV_bd (L:List UInt8): -1000000<pwV L∧pwV L<1000000:=by
 cases L with
 |nil=>show -1000000<(0:Int)∧(0:Int)<1000000;omega
 |cons c r=>
  show -1000000<(if isE c=true then xpV r else 0)∧(if isE c=true then xpV r else 0)<1000000
  split
  ·unfold xpV
   split
   ·rename_i h;have:=dvl6 _ h;split<;>omega
   ·omega
  ·omega
end Go.Ulp
namespace Go.Proofs.YtfphmlmgjhebjaaGreatDoor
open Go.RowKit Go.Ulp
set_option maxHeartbeats 2000000
set_option maxRecDepth 100000
theorem pwr_other (c:UInt8) (r:List UInt8) (w:World) (hl:(c::r).length≤1000000) (h:isE c=false):
 Calls Tryz.prog 154 #[.string (bsOf (c::r))] w fun e w'=>e=.returned (.tuple #[.int .i64 0,.bool false])∧Below w.heap.size w w':=by
 unfold isE at h
 have h1:=(Bool.or_eq_false_iff.1 h).1
 have h2:=(Bool.or_eq_false_iff.1 h).2
 have hix: ∀w,(Instr.index 9 (.string (bsOf (c::r))) (.int .i64 0)).run Tryz.prog w=.ok (.int .u8 (c.toNat:Int)) w:=fun w=>by
  rw [run_index_string _ _ _ _ _ Tryz.underlying9,dif_pos ⟨by omega,by rw [bs_size];simp⟩]
  rfl
 have x1: ¬(c.toNat:Int)=101:=(fun h9=>by
  have:c=101:=UInt8.toNat_inj.1 (by show c.toNat=101;omega)
  rw [this] at h1;exact absurd h1 (by decide))
 have x2: ¬(c.toNat:Int)=69:=(fun h9=>by
  have:c=69:=UInt8.toNat_inj.1 (by show c.toNat=69;omega)
  rw [this] at h2;exact absurd h2 (by decide))
 have hne:(bsOf (c::r)).toList.isEmpty=false:=by rw [bs_toList];rfl
 obtain ⟨Q,hQ⟩: ∃Q,Q=bsOf (c::r):=⟨_,rfl⟩
 rw [←hQ] at hix hne ⊢
 clear hQ h h1 h2
 go_enter Tryz.func154,Tryz.ntmps154
 go_wp2_with fail
 all_goals first
  |(go_ret2;exact ⟨rfl,Below.refl _ _⟩)
  |(exfalso;simp only [beq_iff_eq,bne_iff_ne,ne_eq,Bool.or_eq_true,Bool.and_eq_false_iff,decide_eq_true_eq,beq_eq_false_iff_ne,bne_eq_false_iff_eq] at *;omega)
theorem pwr_core (c:UInt8) (r s':List UInt8) (neg pl:Bool) (n m:Nat) (ok:Bool) (v:Int) (w:World) (hc:isE c=true) (hl:(c::r).length≤1000000)
 (hn:sgnP r=neg) (hp:Lib.hasPrefix r [43]=pl) (hs':sgS r=s') (hn2:(tkD s').length=n) (hm:s'.length=m) (hok:okX s'=ok) (hv:v=if ok=true then (if neg=true then -((dvl s':Nat):Int) else ((dvl s':Nat):Int)) else 0):
 Calls Tryz.prog 154 #[.string (bsOf (c::r))] w fun e w'=>e=.returned (.tuple #[.int .i64 v,.bool ok])∧Below w.heap.size w w':=by
 have hix: ∀w,(Instr.index 9 (.string (bsOf (c::r))) (.int .i64 0)).run Tryz.prog w=.ok (.int .u8 (c.toNat:Int)) w:=fun w=>by
  rw [run_index_string _ _ _ _ _ Tryz.underlying9,dif_pos ⟨by omega,by rw [bs_size];simp⟩]
  rfl
 have hne:(bsOf (c::r)).toList.isEmpty=false:=by rw [bs_toList];rfl
 have hs1:=slice_from (P:=Tryz.prog) Tryz.underlying9 (c::r) 1 (by omega) (by simp;omega)
 rw [show (c::r).drop (1:Int).toNat=r from rfl] at hs1
 have H1:=hid (show ∀w,Calls Tryz.prog 71 #[.string (bsOf r),.string ⟨#[45]⟩] w fun e w'=>e=.returned (.bool neg)∧w'=w from fun w=>by
  have h:=Tryz.strings_HasPrefix (bsOf r) ⟨#[45]⟩ w
  rw [bs_list] at h;rw [←hn];exact h)
 have H2:=hid (show ∀w,Calls Tryz.prog 71 #[.string (bsOf r),.string ⟨#[43]⟩] w fun e w'=>e=.returned (.bool pl)∧w'=w from fun w=>by
  have h:=Tryz.strings_HasPrefix (bsOf r) ⟨#[43]⟩ w
  rw [bs_list] at h;rw [←hp];exact h)
 have hrl:r.length≤1000000:=by rw [List.length_cons] at hl;omega
 have HS2:(neg||pl)=true→ ∀w,(Instr.slice 9 (.string (bsOf r)) (some (.int .i64 1)) none none).run Tryz.prog w=.ok (.string (bsOf s')) w:=fun h w=>by
  have h1:1≤r.length:=by
   rcases Bool.or_eq_true _ _ |>.mp h with h2|h2
   ·rw [←hn] at h2;exact hp_len h2
   ·rw [←hp] at h2;exact hp_len h2
  have e1:s'=r.drop 1:=by rw [←hs'];unfold sgS;rw [hn,hp,if_pos h]
  have:=slice_from (P:=Tryz.prog) Tryz.underlying9 r 1 (by omega) (by omega) w
  rw [this,e1];rfl
 have HS3:(neg||pl)=false→s'=r:=fun h=>by rw [←hs'];unfold sgS;rw [hn,hp,if_neg (by rw [h];decide)]
 have hsl:s'.length≤1000000:=by
  rw [←hs'];unfold sgS;split
  ·rw [List.length_drop];omega
  ·exact hrl
 have DG:=hid (show ∀w,Calls Tryz.prog 153 #[.string (bsOf s')] w fun e w'=>e=.returned (.int .i64 (n:Int))∧Below w.heap.size w w' from fun w=>by rw [←hn2];exact digitsP_any s' w hsl)
 have hsz:(bsOf s').size=m:=by rw [bs_size,hm]
 have hok2:ok=decide (1≤n∧n≤6∧n=m):=by rw [←hok];unfold okX;rw [hn2,hm]
 obtain ⟨d,hd⟩: ∃d,d=dvl s':=⟨_,rfl⟩
 have AT:=hid (show ok=true→ ∀w,Calls Tryz.prog 170 #[.string (bsOf s')] w fun e w'=>e=.returned (.tuple #[.int .i64 (d:Int),.nilIface])∧Below w.heap.size w w' from fun h w=>by
  have h3:=h
  rw [hok2] at h3
  obtain ⟨g1,g2,g3⟩:=of_decide_eq_true h3
  have ha:AllDg s':=all_of_len (by rw [hn2,hm];exact g3)
  refine (Tryz.strconv_Atoi (bsOf s') (d:Int) (by rw [bs_size];omega) (by rw [bs_list,hd];exact atoi_dv s' ha (fun h9=>by rw [h9] at hm;rw [List.length_nil] at hm;omega)) w).mono ?_
  rintro e w1 ⟨rfl,t,rfl⟩
  exact ⟨rfl,Lib.bytesWorld_below _ _ _⟩)
 have hdb:ok=true→d<1000000:=fun h=>by rw [hd];exact dvl6 s' (by rw [hok];exact h)
 rw [←hd] at hv
 obtain ⟨Q,hQ⟩: ∃Q,Q=bsOf (c::r):=⟨_,rfl⟩
 rw [←hQ] at hix hne hs1 ⊢
 obtain ⟨S,hS⟩: ∃S,S=bsOf s':=⟨_,rfl⟩
 rw [←hS] at HS2 DG hsz AT
 have HS4:(neg||pl)=false→bsOf r=S:=fun h=>by rw [hS,HS3 h]
 obtain ⟨R,hR⟩: ∃R,R=bsOf r:=⟨_,rfl⟩
 rw [←hR] at HS2 HS4 H1 H2 hs1
 have HX:((c.toNat:Int)=101)∨((c.toNat:Int)=69):=by
  unfold isE at hc
  rcases Bool.or_eq_true _ _ |>.mp hc with h|h
  ·rw [beq_iff_eq.1 h];exact .inl rfl
  ·rw [beq_iff_eq.1 h];exact .inr rfl
 have h69:((69:Int) !=101)=true:=rfl
 clear hQ hS hR hd HS3 hn hp hs' hn2 hm hok hl hrl hsl hc
 obtain ⟨x,hx⟩: ∃x,x=(c.toNat:Int):=⟨_,rfl⟩
 rw [←hx] at HX hix
 clear hx
 cases neg
 ·cases pl
  ·have e1:=HS4 rfl
   subst e1
   clear HS2 HS4
   cases ok
   ·rw [if_neg (by simp)] at hv
    subst hv
    have hno: ¬(1≤n∧n≤6∧n=m):=of_decide_eq_false hok2.symm
    clear hok2 AT hdb
    rcases HX with rfl|rfl
    ·go_enter Tryz.func154,Tryz.ntmps154
     go_wp2_with (first|(go_at_call 71;first|((with_reducible refine (H1.out _).mono ?_);rintro en w1 ⟨rfl,rfl⟩)|((with_reducible refine (H2.out _).mono ?_);rintro en w1 ⟨rfl,rfl⟩))|(go_at_call 153;(with_reducible refine (DG.out _).mono ?_);rintro en w1 ⟨rfl,hb1⟩)|(go_at_call 170;(with_reducible refine (AT.out _).mono ?_);rintro en w2 ⟨rfl,hb2⟩))
     all_goals first
      |(go_ret2;exact ⟨rfl,hb1⟩)
      |(exfalso;simp only [beq_iff_eq,bne_iff_ne,ne_eq,Bool.or_eq_true,decide_eq_true_eq,beq_eq_false_iff_ne,bne_eq_false_iff_eq] at *;omega)
    ·go_enter Tryz.func154,Tryz.ntmps154
     go_wp2_with (first|(go_at_call 71;first|((with_reducible refine (H1.out _).mono ?_);rintro en w1 ⟨rfl,rfl⟩)|((with_reducible refine (H2.out _).mono ?_);rintro en w1 ⟨rfl,rfl⟩))|(go_at_call 153;(with_reducible refine (DG.out _).mono ?_);rintro en w1 ⟨rfl,hb1⟩)|(go_at_call 170;(with_reducible refine (AT.out _).mono ?_);rintro en w2 ⟨rfl,hb2⟩))
     all_goals first
      |(go_ret2;exact ⟨rfl,hb1⟩)
      |(exfalso;simp only [beq_iff_eq,bne_iff_ne,ne_eq,Bool.or_eq_true,decide_eq_true_eq,beq_eq_false_iff_ne,bne_eq_false_iff_eq] at *;omega)
   ·rw [if_pos rfl] at hv
    have hdb:=hdb rfl
    replace AT:=hid (AT.out rfl)
    obtain ⟨g1,g2,g3⟩:1≤n∧n≤6∧n=m:=of_decide_eq_true hok2.symm
    subst g3
    clear hok2
    have b1:((n:Int)==0)=false:=beq_eq_false_iff_ne.2 (by omega)
    rcases HX with rfl|rfl
    ·go_enter Tryz.func154,Tryz.ntmps154
     go_wp2_with (first|(go_at_call 71;first|((with_reducible refine (H1.out _).mono ?_);rintro en w1 ⟨rfl,rfl⟩)|((with_reducible refine (H2.out _).mono ?_);rintro en w1 ⟨rfl,rfl⟩))|(go_at_call 153;(with_reducible refine (DG.out _).mono ?_);rintro en w1 ⟨rfl,hb1⟩)|(go_at_call 170;(with_reducible refine (AT.out _).mono ?_);rintro en w2 ⟨rfl,hb2⟩))
     all_goals first
      |(go_ret2;exact ⟨by rw [hv];rfl,below_trans hb1 hb2⟩)
      |(exfalso;simp only [beq_iff_eq,bne_iff_ne,ne_eq,Bool.or_eq_true,decide_eq_true_eq,beq_eq_false_iff_ne,bne_eq_false_iff_eq] at *;omega)
    ·go_enter Tryz.func154,Tryz.ntmps154
     go_wp2_with (first|(go_at_call 71;first|((with_reducible refine (H1.out _).mono ?_);rintro en w1 ⟨rfl,rfl⟩)|((with_reducible refine (H2.out _).mono ?_);rintro en w1 ⟨rfl,rfl⟩))|(go_at_call 153;(with_reducible refine (DG.out _).mono ?_);rintro en w1 ⟨rfl,hb1⟩)|(go_at_call 170;(with_reducible refine (AT.out _).mono ?_);rintro en w2 ⟨rfl,hb2⟩))
     all_goals first
      |(go_ret2;exact ⟨by rw [hv];rfl,below_trans hb1 hb2⟩)
      |(exfalso;simp only [beq_iff_eq,bne_iff_ne,ne_eq,Bool.or_eq_true,decide_eq_true_eq,beq_eq_false_iff_ne,bne_eq_false_iff_eq] at *;omega)
  ·have e1:=HS2 rfl
   clear HS2 HS4
   cases ok
   ·rw [if_neg (by simp)] at hv
    subst hv
    have hno: ¬(1≤n∧n≤6∧n=m):=of_decide_eq_false hok2.symm
    clear hok2 AT hdb
    rcases HX with rfl|rfl
    ·go_enter Tryz.func154,Tryz.ntmps154
     go_wp2_with (first|(go_at_call 71;first|((with_reducible refine (H1.out _).mono ?_);rintro en w1 ⟨rfl,rfl⟩)|((with_reducible refine (H2.out _).mono ?_);rintro en w1 ⟨rfl,rfl⟩))|(go_at_call 153;(with_reducible refine (DG.out _).mono ?_);rintro en w1 ⟨rfl,hb1⟩)|(go_at_call 170;(with_reducible refine (AT.out _).mono ?_);rintro en w2 ⟨rfl,hb2⟩))
     all_goals first
      |(go_ret2;exact ⟨rfl,hb1⟩)
      |(exfalso;simp only [beq_iff_eq,bne_iff_ne,ne_eq,Bool.or_eq_true,decide_eq_true_eq,beq_eq_false_iff_ne,bne_eq_false_iff_eq] at *;omega)
    ·go_enter Tryz.func154,Tryz.ntmps154
     go_wp2_with (first|(go_at_call 71;first|((with_reducible refine (H1.out _).mono ?_);rintro en w1 ⟨rfl,rfl⟩)|((with_reducible refine (H2.out _).mono ?_);rintro en w1 ⟨rfl,rfl⟩))|(go_at_call 153;(with_reducible refine (DG.out _).mono ?_);rintro en w1 ⟨rfl,hb1⟩)|(go_at_call 170;(with_reducible refine (AT.out _).mono ?_);rintro en w2 ⟨rfl,hb2⟩))
     all_goals first
      |(go_ret2;exact ⟨rfl,hb1⟩)
      |(exfalso;simp only [beq_iff_eq,bne_iff_ne,ne_eq,Bool.or_eq_true,decide_eq_true_eq,beq_eq_false_iff_ne,bne_eq_false_iff_eq] at *;omega)
   ·rw [if_pos rfl] at hv
    have hdb:=hdb rfl
    replace AT:=hid (AT.out rfl)
    obtain ⟨g1,g2,g3⟩:1≤n∧n≤6∧n=m:=of_decide_eq_true hok2.symm
    subst g3
    clear hok2
    have b1:((n:Int)==0)=false:=beq_eq_false_iff_ne.2 (by omega)
    rcases HX with rfl|rfl
    ·go_enter Tryz.func154,Tryz.ntmps154
     go_wp2_with (first|(go_at_call 71;first|((with_reducible refine (H1.out _).mono ?_);rintro en w1 ⟨rfl,rfl⟩)|((with_reducible refine (H2.out _).mono ?_);rintro en w1 ⟨rfl,rfl⟩))|(go_at_call 153;(with_reducible refine (DG.out _).mono ?_);rintro en w1 ⟨rfl,hb1⟩)|(go_at_call 170;(with_reducible refine (AT.out _).mono ?_);rintro en w2 ⟨rfl,hb2⟩))
     all_goals first
      |(go_ret2;exact ⟨by rw [hv];rfl,below_trans hb1 hb2⟩)
      |(exfalso;simp only [beq_iff_eq,bne_iff_ne,ne_eq,Bool.or_eq_true,decide_eq_true_eq,beq_eq_false_iff_ne,bne_eq_false_iff_eq] at *;omega)
    ·go_enter Tryz.func154,Tryz.ntmps154
     go_wp2_with (first|(go_at_call 71;first|((with_reducible refine (H1.out _).mono ?_);rintro en w1 ⟨rfl,rfl⟩)|((with_reducible refine (H2.out _).mono ?_);rintro en w1 ⟨rfl,rfl⟩))|(go_at_call 153;(with_reducible refine (DG.out _).mono ?_);rintro en w1 ⟨rfl,hb1⟩)|(go_at_call 170;(with_reducible refine (AT.out _).mono ?_);rintro en w2 ⟨rfl,hb2⟩))
     all_goals first
      |(go_ret2;exact ⟨by rw [hv];rfl,below_trans hb1 hb2⟩)
      |(exfalso;simp only [beq_iff_eq,bne_iff_ne,ne_eq,Bool.or_eq_true,decide_eq_true_eq,beq_eq_false_iff_ne,bne_eq_false_iff_eq] at *;omega)
 ·have e1:=HS2 rfl
  clear HS2 HS4
  have hw:IntKind.i64.wrap (-(d:Int))= -(d:Int)∨ok=false:=by
   cases ok
   ·exact .inr rfl
   ·have:=hdb rfl
    exact .inl (IntWalk.i64_in _ (by omega))
  cases ok
  ·rw [if_neg (by simp)] at hv
   subst hv
   have hno: ¬(1≤n∧n≤6∧n=m):=of_decide_eq_false hok2.symm
   clear hok2 AT hdb
   rcases HX with rfl|rfl
   ·go_enter Tryz.func154,Tryz.ntmps154
    go_wp2_with (first|(go_at_call 71;first|((with_reducible refine (H1.out _).mono ?_);rintro en w1 ⟨rfl,rfl⟩)|((with_reducible refine (H2.out _).mono ?_);rintro en w1 ⟨rfl,rfl⟩))|(go_at_call 153;(with_reducible refine (DG.out _).mono ?_);rintro en w1 ⟨rfl,hb1⟩)|(go_at_call 170;(with_reducible refine (AT.out _).mono ?_);rintro en w2 ⟨rfl,hb2⟩))
    all_goals first
     |(go_ret2;exact ⟨rfl,hb1⟩)
     |(exfalso;simp only [beq_iff_eq,bne_iff_ne,ne_eq,Bool.or_eq_true,decide_eq_true_eq,beq_eq_false_iff_ne,bne_eq_false_iff_eq] at *;omega)
   ·go_enter Tryz.func154,Tryz.ntmps154
    go_wp2_with (first|(go_at_call 71;first|((with_reducible refine (H1.out _).mono ?_);rintro en w1 ⟨rfl,rfl⟩)|((with_reducible refine (H2.out _).mono ?_);rintro en w1 ⟨rfl,rfl⟩))|(go_at_call 153;(with_reducible refine (DG.out _).mono ?_);rintro en w1 ⟨rfl,hb1⟩)|(go_at_call 170;(with_reducible refine (AT.out _).mono ?_);rintro en w2 ⟨rfl,hb2⟩))
    all_goals first
     |(go_ret2;exact ⟨rfl,hb1⟩)
     |(exfalso;simp only [beq_iff_eq,bne_iff_ne,ne_eq,Bool.or_eq_true,decide_eq_true_eq,beq_eq_false_iff_ne,bne_eq_false_iff_eq] at *;omega)
  ·rw [if_pos rfl] at hv
   have hdb:=hdb rfl
   replace AT:=hid (AT.out rfl)
   obtain ⟨g1,g2,g3⟩:1≤n∧n≤6∧n=m:=of_decide_eq_true hok2.symm
   subst g3
   clear hok2
   have b1:((n:Int)==0)=false:=beq_eq_false_iff_ne.2 (by omega)
   rcases HX with rfl|rfl
   ·go_enter Tryz.func154,Tryz.ntmps154
    go_wp2_with (first|(go_at_call 71;first|((with_reducible refine (H1.out _).mono ?_);rintro en w1 ⟨rfl,rfl⟩)|((with_reducible refine (H2.out _).mono ?_);rintro en w1 ⟨rfl,rfl⟩))|(go_at_call 153;(with_reducible refine (DG.out _).mono ?_);rintro en w1 ⟨rfl,hb1⟩)|(go_at_call 170;(with_reducible refine (AT.out _).mono ?_);rintro en w2 ⟨rfl,hb2⟩))
    all_goals first
     |(go_ret2;exact ⟨by rw [hv];rfl,below_trans hb1 hb2⟩)
     |(exfalso;simp only [beq_iff_eq,bne_iff_ne,ne_eq,Bool.or_eq_true,decide_eq_true_eq,beq_eq_false_iff_ne,bne_eq_false_iff_eq] at *;omega)
   ·go_enter Tryz.func154,Tryz.ntmps154
    go_wp2_with (first|(go_at_call 71;first|((with_reducible refine (H1.out _).mono ?_);rintro en w1 ⟨rfl,rfl⟩)|((with_reducible refine (H2.out _).mono ?_);rintro en w1 ⟨rfl,rfl⟩))|(go_at_call 153;(with_reducible refine (DG.out _).mono ?_);rintro en w1 ⟨rfl,hb1⟩)|(go_at_call 170;(with_reducible refine (AT.out _).mono ?_);rintro en w2 ⟨rfl,hb2⟩))
    all_goals first
     |(go_ret2;exact ⟨by rw [hv];rfl,below_trans hb1 hb2⟩)
     |(exfalso;simp only [beq_iff_eq,bne_iff_ne,ne_eq,Bool.or_eq_true,decide_eq_true_eq,beq_eq_false_iff_ne,bne_eq_false_iff_eq] at *;omega)
theorem powerP_any (L:List UInt8) (w:World) (hl:L.length≤1000000):
 Calls Tryz.prog 154 #[.string (bsOf L)] w fun e w'=>e=.returned (.tuple #[.int .i64 (pwV L),.bool (pwO L)])∧Below w.heap.size w w':=by
 cases L with
 |nil=>
  have hne:(bsOf []).toList.isEmpty=true:=by rw [bs_toList];rfl
  show Calls Tryz.prog 154 #[.string (bsOf [])] w fun e w'=>e=.returned (.tuple #[.int .i64 0,.bool true])∧Below w.heap.size w w'
  obtain ⟨Q,hQ⟩: ∃Q,Q=bsOf []:=⟨_,rfl⟩
  rw [←hQ] at hne ⊢
  clear hQ
  go_enter Tryz.func154,Tryz.ntmps154
  go_wp2_with fail
  go_ret2
  exact ⟨rfl,Below.refl _ _⟩
 |cons c r=>
  cases hc:isE c
  ·have h:=pwr_other c r w hl hc
   rw [show pwV (c::r)=0 by show (if isE c=true then xpV r else 0)=0;rw [hc];rfl,show pwO (c::r)=false by show (isE c&&okX (sgS r))=false;rw [hc];rfl]
   exact h
  ·have h:=pwr_core c r (sgS r) (sgnP r) (Lib.hasPrefix r [43]) _ _ (okX (sgS r)) (xpV r) w hc hl rfl rfl rfl rfl rfl rfl rfl
   rw [show pwV (c::r)=xpV r by show (if isE c=true then xpV r else 0)=_;rw [hc,if_pos rfl],show pwO (c::r)=okX (sgS r) by show (isE c&&okX (sgS r))=_;rw [hc];rfl]
   exact h
end Go.Proofs.YtfphmlmgjhebjaaGreatDoor
namespace Go.Ulp
open Go.RowKit
def rdT (L:List UInt8):List UInt8:=Lib.trimPrefix L [45]
def rPt (R:List UInt8):Bool:=Lib.hasPrefix R [46]
def rPart (R:List UInt8):List UInt8:=if rPt R=true then tkD (R.drop 1) else []
def rRest (R:List UInt8):List UInt8:=if rPt R=true then dpD (R.drop 1) else R
def rAll (L:List UInt8):List UInt8:=tkD (rdT L)++rPart (dpD (rdT L))
def rPw (L:List UInt8):List UInt8:=rRest (dpD (rdT L))
def rD (L:List UInt8):List UInt8:=(rAll L).dropWhile fun b=>b==48
def rdE (L:List UInt8):Int:=if 1000<L.length then 2 else if pwO (rPw L)=false∨rAll L= [] then 5 else 0
def rdN (L:List UInt8):Bool:=if rdE L=0 then Lib.hasPrefix L [45] else false
def rdD (L:List UInt8):List UInt8:=if rdE L=0 then rD L else []
def rdK (L:List UInt8):Int:=if rdE L=0∧rD L≠ [] then pwV (rPw L)-((rPart (dpD (rdT L))).length:Int) else 0
theorem trimPrefix_len (L p:List UInt8):(Lib.trimPrefix L p).length≤L.length:=by unfold Lib.trimPrefix;split<;>simp
theorem trimPrefix_one (R:List UInt8) (c:UInt8):Lib.trimPrefix R [c]=if Lib.hasPrefix R [c]=true then R.drop 1 else R:=rfl
def RetPz (n:Bool) (D:List UInt8) (k x:Int) (w:World) (e:Ending) (w':World):Prop:=e=.returned (.tuple #[.bool n,.string (bsOf D),.int .i64 k,.int .i64 x])∧Below w.heap.size w w'
theorem ret4 {fn:Func} {t u v x:Tmp} (h:fn.results= #[.tmp t,.tmp u,.tmp v,.tmp x]) (tmps:Array Value) (P:Program) (w:World):
 (results fn tmps).run P w=.ok (.tuple #[tmps.getD t undef,tmps.getD u undef,tmps.getD v undef,tmps.getD x undef]) w:=by
 simp [results,h]
end Go.Ulp
namespace Go.Proofs.YtfphmlmgjhebjaaGreatDoor
open Go.RowKit Go.Ulp
set_option maxHeartbeats 4000000
set_option maxRecDepth 100000
theorem parse_long (L:List UInt8) (w:World) (hl:1000<L.length) (h2:L.length≤9223372036854775807):
 Calls Tryz.prog 88 #[.string (bsOf L)] w (RetPz false [] 0 2 w):=by
 have hsz:=bs_size L
 generalize bsOf L=Q at *
 go_enter Tryz.func88,Tryz.ntmps88
 go_wp2_with fail
 (try simp only [Exit.inBlock,Exit.then]);refine bodyPost_ret (ret4 rfl _ _ _) rfl ?_
 exact ⟨rfl,Below.refl _ _⟩
theorem parse_core (L T W R PA RE A D:List UInt8) (neg pt ok:Bool) (K:Int) (v0:Bool) (v1:List UInt8) (v2 v3:Int) (w:World) (hl:L.length≤1000)
 (eT:rdT L=T) (en:Lib.hasPrefix L [45]=neg) (eW:tkD T=W) (eR:dpD T=R) (ep:rPt R=pt) (eP:rPart R=PA) (eE:rRest R=RE) (ek:pwV RE=K) (eo:pwO RE=ok) (eA:W++PA=A) (eD:(A.dropWhile fun b=>b==48)=D)
 (c1:ok=false→v0=false∧v1= []∧v2=0∧v3=5) (c2:ok=true→A= []→v0=false∧v1= []∧v2=0∧v3=5)
 (c3:ok=true→A≠ []→D= []→v0=neg∧v1= []∧v2=0∧v3=0) (c4:ok=true→A≠ []→D≠ []→v0=neg∧v1=D∧v2=K-(PA.length:Int)∧v3=0):
 Calls Tryz.prog 88 #[.string (bsOf L)] w (RetPz v0 v1 v2 v3 w):=by
 have hsz:=bs_size L
 have lT:T.length≤1000:=by rw [←eT];exact Nat.le_trans (trimPrefix_len L [45]) hl
 have lW:W.length≤1000:=by rw [←eW];exact Nat.le_trans (tk_len T) lT
 have lR:R.length≤1000:=by have:=dp_len T;rw [eR] at this;omega
 have lP:PA.length≤1000:=by
  rw [←eP];unfold rPart;split
  ·refine Nat.le_trans (tk_len _) ?_;rw [List.length_drop];omega
  ·simp
 have lE:RE.length≤1000:=by
  rw [←eE];unfold rRest;split
  ·have:=dp_len (R.drop 1);rw [List.length_drop] at this;omega
  ·exact lR
 have C1:=hid (show ∀w,Calls Tryz.prog 64 #[.string (bsOf L),.string ⟨#[45]⟩] w fun e w'=>e=.returned (.tuple #[.string (bsOf T),.bool neg])∧w'=w from fun w=>by
  have h:=Tryz.strings_CutPrefix (bsOf L) ⟨#[45]⟩ w
  rw [bs_list] at h;rw [←eT,←en];exact h)
 have C2:=hid (show ∀w,Calls Tryz.prog 64 #[.string (bsOf R),.string ⟨#[46]⟩] w fun e w'=>e=.returned (.tuple #[.string (bsOf (Lib.trimPrefix R [46])),.bool pt])∧w'=w from fun w=>by
  have h:=Tryz.strings_CutPrefix (bsOf R) ⟨#[46]⟩ w
  rw [bs_list] at h;rw [←ep];exact h)
 have D1:=hid (fun w=>digitsP_any T w (by omega))
 have D2:=hid (fun w=>digitsP_any (Lib.trimPrefix R [46]) w (by have:=trimPrefix_len R [46];omega))
 have S1:=slice_to (P:=Tryz.prog) Tryz.underlying9 T ((tkD T).length:Int) (by omega) (by have:=tk_len T;omega)
 have S2:=slice_from (P:=Tryz.prog) Tryz.underlying9 T ((tkD T).length:Int) (by omega) (by have:=tk_len T;omega)
 rw [Int.toNat_natCast,take_tk,eW] at S1
 rw [Int.toNat_natCast,drop_tk,eW,eR] at S2
 obtain ⟨R1,hR1⟩: ∃R1,R1=Lib.trimPrefix R [46]:=⟨_,rfl⟩
 have S3:=slice_to (P:=Tryz.prog) Tryz.underlying9 R1 ((tkD R1).length:Int) (by omega) (by have:=tk_len R1;omega)
 have S4:=slice_from (P:=Tryz.prog) Tryz.underlying9 R1 ((tkD R1).length:Int) (by omega) (by have:=tk_len R1;omega)
 rw [Int.toNat_natCast,take_tk] at S3
 rw [Int.toNat_natCast,drop_tk] at S4
 have hP:pt=true→tkD R1=PA∧dpD R1=RE:=fun h=>by
  have e1:R1=R.drop 1:=by rw [hR1,trimPrefix_one,if_pos (by rw [←h,←ep];rfl)]
  rw [e1,←eP,←eE]
  unfold rPart rRest
  rw [ep,if_pos h,if_pos h]
  exact ⟨rfl,rfl⟩
 have hP0:pt=false→PA= []∧RE=R:=fun h=>by
  rw [←eP,←eE]
  unfold rPart rRest
  rw [ep,h]
  exact ⟨rfl,rfl⟩
 have PW:=hid (fun w=>powerP_any RE w (by omega))
 rw [ek,eo] at PW
 have ka:=add_bs (P:=Tryz.prog) W PA (by omega)
 rw [eA] at ka
 have TZ:=hid (fun w=>trimZ_any A w)
 rw [eD] at TZ
 have hKb:=pwV_bd RE
 rw [ek] at hKb
 have hAe:(bsOf A).toList.isEmpty=A.isEmpty:=by rw [bs_toList]
 have hDe:(bsOf D).toList.isEmpty=D.isEmpty:=by rw [bs_toList]
 have hPz:=bs_size PA
 have hw:IntKind.i64.wrap (K-(PA.length:Int))=K-(PA.length:Int):=IntWalk.i64_in _ (by omega)
 rw [eW] at D1
 rw [←hR1] at D2 C2
 obtain ⟨n,hn⟩: ∃n,n=W.length:=⟨_,rfl⟩
 obtain ⟨n1,hn1⟩: ∃n1,n1=(tkD R1).length:=⟨_,rfl⟩
 rw [←hn] at D1 S1 S2
 rw [←hn1] at D2 S3 S4
 clear hn hn1 eT en eW eR ep eP eE ek eo eA eD lT lW lR lE hR1
 go_enter Tryz.func88,Tryz.ntmps88
 go_upto_region 5 with (first
  |(go_at_call 64;(with_reducible refine (C1.out _).mono ?_);rintro en w1 ⟨rfl,rfl⟩)
  |(go_at_call 153;(with_reducible refine (D1.out _).mono ?_);rintro en w1 ⟨rfl,hb1⟩))
 go_region
 have hb2:=hb1.drew
 obtain ⟨w2,hw2⟩: ∃w2,w2=w1.drew:=⟨_,rfl⟩
 rw [←hw2] at hb2 ⊢
 clear hw2 hb1 S1 S2 D1 C1
 cases pt
 ·obtain ⟨e1,e2⟩:=hP0 rfl
  subst e2
  subst e1
  have ka2: ∀w,(Op.stringOp .add (bsOf W) ⟨#[]⟩).run Tryz.prog w=.ok (.string (bsOf A)) w:=ka
  rw [show K-(([]:List UInt8).length:Int)=K by simp] at c4 hw
  clear hP hP0 S3 S4 D2 ka hPz
  go_upto_region 10 with (first|(go_at_call 64;(with_reducible refine (C2.out _).mono ?_);rintro en w3 ⟨rfl,rfl⟩)|(go_at_call 153;(with_reducible refine (D2.out _).mono ?_);rintro en w4 ⟨rfl,hb4⟩)|(go_at_call 154;(with_reducible refine (PW.out _).mono ?_);rintro en w5 ⟨rfl,hb5⟩)|(go_at_call 155;(with_reducible refine (TZ.out _).mono ?_);rintro en w6 ⟨rfl,rfl⟩))
  cases ok
  ·obtain ⟨rfl,rfl,rfl,rfl⟩:=c1 rfl
   clear hAe hDe c1 c2 c3 c4
   go_wp2_with (first|(go_at_call 64;(with_reducible refine (C2.out _).mono ?_);rintro en w3 ⟨rfl,rfl⟩)|(go_at_call 153;(with_reducible refine (D2.out _).mono ?_);rintro en w4 ⟨rfl,hb4⟩)|(go_at_call 154;(with_reducible refine (PW.out _).mono ?_);rintro en w5 ⟨rfl,hb5⟩)|(go_at_call 155;(with_reducible refine (TZ.out _).mono ?_);rintro en w6 ⟨rfl,rfl⟩))
   (try simp only [Exit.inBlock,Exit.then]);refine bodyPost_ret (ret4 rfl _ _ _) rfl ?_
   exact ⟨rfl,by (repeat' first|(with_reducible first|assumption|apply bR|apply bA|apply bN|apply bD|apply bL|apply bS)|refine bT ?_ (by assumption)|go_size)⟩
  ·by_cases hA:A= []
   ·obtain ⟨rfl,rfl,rfl,rfl⟩:=c2 rfl hA
    have hAe2:(bsOf A).toList.isEmpty=true:=by rw [hAe,hA];rfl
    clear hAe c1 c2 c3 c4 hA
    go_wp2_with (first|(go_at_call 64;(with_reducible refine (C2.out _).mono ?_);rintro en w3 ⟨rfl,rfl⟩)|(go_at_call 153;(with_reducible refine (D2.out _).mono ?_);rintro en w4 ⟨rfl,hb4⟩)|(go_at_call 154;(with_reducible refine (PW.out _).mono ?_);rintro en w5 ⟨rfl,hb5⟩)|(go_at_call 155;(with_reducible refine (TZ.out _).mono ?_);rintro en w6 ⟨rfl,rfl⟩))
    (try simp only [Exit.inBlock,Exit.then]);refine bodyPost_ret (ret4 rfl _ _ _) rfl ?_
    exact ⟨rfl,by (repeat' first|(with_reducible first|assumption|apply bR|apply bA|apply bN|apply bD|apply bL|apply bS)|refine bT ?_ (by assumption)|go_size)⟩
   ·have hAe2:(bsOf A).toList.isEmpty=false:=by rw [hAe];exact List.isEmpty_eq_false_iff.2 hA
    by_cases hD:D= []
    ·have hDe2:(bsOf D).toList.isEmpty=true:=by rw [hDe,hD];rfl
     obtain ⟨rfl,rfl,rfl,rfl⟩:=c3 rfl hA hD
     clear hAe hDe c1 c2 c3 c4 hA hD
     go_wp2_with (first|(go_at_call 64;(with_reducible refine (C2.out _).mono ?_);rintro en w3 ⟨rfl,rfl⟩)|(go_at_call 153;(with_reducible refine (D2.out _).mono ?_);rintro en w4 ⟨rfl,hb4⟩)|(go_at_call 154;(with_reducible refine (PW.out _).mono ?_);rintro en w5 ⟨rfl,hb5⟩)|(go_at_call 155;(with_reducible refine (TZ.out _).mono ?_);rintro en w6 ⟨rfl,rfl⟩))
     (try simp only [Exit.inBlock,Exit.then]);refine bodyPost_ret (ret4 rfl _ _ _) rfl ?_
     exact ⟨rfl,by (repeat' first|(with_reducible first|assumption|apply bR|apply bA|apply bN|apply bD|apply bL|apply bS)|refine bT ?_ (by assumption)|go_size)⟩
    ·have hDe2:(bsOf D).toList.isEmpty=false:=by rw [hDe];exact List.isEmpty_eq_false_iff.2 hD
     obtain ⟨rfl,rfl,rfl,rfl⟩:=c4 rfl hA hD
     clear hAe hDe c1 c2 c3 c4 hA hD
     go_wp2_with (first|(go_at_call 64;(with_reducible refine (C2.out _).mono ?_);rintro en w3 ⟨rfl,rfl⟩)|(go_at_call 153;(with_reducible refine (D2.out _).mono ?_);rintro en w4 ⟨rfl,hb4⟩)|(go_at_call 154;(with_reducible refine (PW.out _).mono ?_);rintro en w5 ⟨rfl,hb5⟩)|(go_at_call 155;(with_reducible refine (TZ.out _).mono ?_);rintro en w6 ⟨rfl,rfl⟩))
     (try simp only [Exit.inBlock,Exit.then]);refine bodyPost_ret (ret4 rfl _ _ _) rfl ?_
     exact ⟨rfl,by (repeat' first|(with_reducible first|assumption|apply bR|apply bA|apply bN|apply bD|apply bL|apply bS)|refine bT ?_ (by assumption)|go_size)⟩
 ·obtain ⟨e1,e2⟩:=hP rfl
  rw [e1] at S3
  rw [e2] at S4
  clear hP hP0 e1 e2
  go_upto_region 9 with (first|(go_at_call 64;(with_reducible refine (C2.out _).mono ?_);rintro en w3 ⟨rfl,rfl⟩)|(go_at_call 153;(with_reducible refine (D2.out _).mono ?_);rintro en w4 ⟨rfl,hb4⟩)|(go_at_call 154;(with_reducible refine (PW.out _).mono ?_);rintro en w5 ⟨rfl,hb5⟩)|(go_at_call 155;(with_reducible refine (TZ.out _).mono ?_);rintro en w6 ⟨rfl,rfl⟩))
  go_region
  have hb5:=hb4.drew
  obtain ⟨w5,hw5⟩: ∃w5,w5=w4.drew:=⟨_,rfl⟩
  rw [←hw5] at hb5 ⊢
  clear hw5
  cases ok
  ·obtain ⟨rfl,rfl,rfl,rfl⟩:=c1 rfl
   clear hAe hDe c1 c2 c3 c4
   go_wp2_with (first|(go_at_call 64;(with_reducible refine (C2.out _).mono ?_);rintro en w3 ⟨rfl,rfl⟩)|(go_at_call 153;(with_reducible refine (D2.out _).mono ?_);rintro en w4 ⟨rfl,hb4⟩)|(go_at_call 154;(with_reducible refine (PW.out _).mono ?_);rintro en w5 ⟨rfl,hb5⟩)|(go_at_call 155;(with_reducible refine (TZ.out _).mono ?_);rintro en w6 ⟨rfl,rfl⟩))
   (try simp only [Exit.inBlock,Exit.then]);refine bodyPost_ret (ret4 rfl _ _ _) rfl ?_
   exact ⟨rfl,by (repeat' first|(with_reducible first|assumption|apply bR|apply bA|apply bN|apply bD|apply bL|apply bS)|refine bT ?_ (by assumption)|go_size)⟩
  ·by_cases hA:A= []
   ·obtain ⟨rfl,rfl,rfl,rfl⟩:=c2 rfl hA
    have hAe2:(bsOf A).toList.isEmpty=true:=by rw [hAe,hA];rfl
    clear hAe c1 c2 c3 c4 hA
    go_wp2_with (first|(go_at_call 64;(with_reducible refine (C2.out _).mono ?_);rintro en w3 ⟨rfl,rfl⟩)|(go_at_call 153;(with_reducible refine (D2.out _).mono ?_);rintro en w4 ⟨rfl,hb4⟩)|(go_at_call 154;(with_reducible refine (PW.out _).mono ?_);rintro en w5 ⟨rfl,hb5⟩)|(go_at_call 155;(with_reducible refine (TZ.out _).mono ?_);rintro en w6 ⟨rfl,rfl⟩))
    (try simp only [Exit.inBlock,Exit.then]);refine bodyPost_ret (ret4 rfl _ _ _) rfl ?_
    exact ⟨rfl,by (repeat' first|(with_reducible first|assumption|apply bR|apply bA|apply bN|apply bD|apply bL|apply bS)|refine bT ?_ (by assumption)|go_size)⟩
   ·have hAe2:(bsOf A).toList.isEmpty=false:=by rw [hAe];exact List.isEmpty_eq_false_iff.2 hA
    by_cases hD:D= []
    ·have hDe2:(bsOf D).toList.isEmpty=true:=by rw [hDe,hD];rfl
     obtain ⟨rfl,rfl,rfl,rfl⟩:=c3 rfl hA hD
     clear hAe hDe c1 c2 c3 c4 hA hD
     go_wp2_with (first|(go_at_call 64;(with_reducible refine (C2.out _).mono ?_);rintro en w3 ⟨rfl,rfl⟩)|(go_at_call 153;(with_reducible refine (D2.out _).mono ?_);rintro en w4 ⟨rfl,hb4⟩)|(go_at_call 154;(with_reducible refine (PW.out _).mono ?_);rintro en w5 ⟨rfl,hb5⟩)|(go_at_call 155;(with_reducible refine (TZ.out _).mono ?_);rintro en w6 ⟨rfl,rfl⟩))
     (try simp only [Exit.inBlock,Exit.then]);refine bodyPost_ret (ret4 rfl _ _ _) rfl ?_
     exact ⟨rfl,by (repeat' first|(with_reducible first|assumption|apply bR|apply bA|apply bN|apply bD|apply bL|apply bS)|refine bT ?_ (by assumption)|go_size)⟩
    ·have hDe2:(bsOf D).toList.isEmpty=false:=by rw [hDe];exact List.isEmpty_eq_false_iff.2 hD
     obtain ⟨rfl,rfl,rfl,rfl⟩:=c4 rfl hA hD
     clear hAe hDe c1 c2 c3 c4 hA hD
     go_wp2_with (first|(go_at_call 64;(with_reducible refine (C2.out _).mono ?_);rintro en w3 ⟨rfl,rfl⟩)|(go_at_call 153;(with_reducible refine (D2.out _).mono ?_);rintro en w4 ⟨rfl,hb4⟩)|(go_at_call 154;(with_reducible refine (PW.out _).mono ?_);rintro en w5 ⟨rfl,hb5⟩)|(go_at_call 155;(with_reducible refine (TZ.out _).mono ?_);rintro en w6 ⟨rfl,rfl⟩))
     (try simp only [Exit.inBlock,Exit.then]);refine bodyPost_ret (ret4 rfl _ _ _) rfl ?_
     exact ⟨rfl,by (repeat' first|(with_reducible first|assumption|apply bR|apply bA|apply bN|apply bD|apply bL|apply bS)|refine bT ?_ (by assumption)|go_size)⟩
theorem parseP_any (L:List UInt8) (w:World) (hl:L.length≤9223372036854775807):
 Calls Tryz.prog 88 #[.string (bsOf L)] w (RetPz (rdN L) (rdD L) (rdK L) (rdE L) w):=by
 by_cases h:1000<L.length
 ·have e1:rdE L=2:=by unfold rdE;rw [if_pos h]
  have h9:=parse_long L w h hl
  unfold rdN rdD rdK
  rw [e1,if_neg (by omega),if_neg (by omega),if_neg (by omega)]
  exact h9
 ·have e1:rdE L=if pwO (rPw L)=false∨rAll L= [] then 5 else 0:=by unfold rdE;rw [if_neg h]
  refine parse_core L (rdT L) (tkD (rdT L)) (dpD (rdT L)) (rPart (dpD (rdT L))) (rPw L) (rAll L) (rD L) _ _ _ _ _ _ _ _ w (by omega) rfl rfl rfl rfl rfl rfl rfl rfl rfl rfl rfl ?_ ?_ ?_ ?_
  ·intro h1
   have e2:rdE L=5:=by rw [e1,if_pos (.inl h1)]
   unfold rdN rdD rdK
   rw [e2,if_neg (by omega),if_neg (by omega),if_neg (by omega)]
   exact ⟨rfl,rfl,rfl,rfl⟩
  ·intro _ h1
   have e2:rdE L=5:=by rw [e1,if_pos (.inr h1)]
   unfold rdN rdD rdK
   rw [e2,if_neg (by omega),if_neg (by omega),if_neg (by omega)]
   exact ⟨rfl,rfl,rfl,rfl⟩
  ·intro h1 h2 h3
   have e2:rdE L=0:=by rw [e1,if_neg (fun h9=>h9.elim (fun h=>by rw [h1] at h;cases h) h2)]
   unfold rdN rdD rdK
   rw [e2,if_pos rfl,if_pos rfl,if_neg (fun h=>h.2 h3)]
   exact ⟨rfl,h3,rfl,rfl⟩
  ·intro h1 h2 h3
   have e2:rdE L=0:=by rw [e1,if_neg (fun h9=>h9.elim (fun h=>by rw [h1] at h;cases h) h2)]
   unfold rdN rdD rdK
   rw [e2,if_pos rfl,if_pos rfl,if_pos ⟨rfl,h3⟩]
   exact ⟨rfl,rfl,rfl,rfl⟩
end Go.Proofs.YtfphmlmgjhebjaaGreatDoor
namespace Go.Ulp
open Go.RowKit
end Go.Ulp
namespace Go.Proofs.YtfphmlmgjhebjaaGreatDoor
open Go.RowKit Go.Ulp
set_option maxHeartbeats 2000000
set_option maxRecDepth 100000
end Go.Proofs.YtfphmlmgjhebjaaGreatDoor
