/- WantedSays: what the proof leans on, part 19 (Wa2 Wa4). -/
import Derived.Test.YtfphmlmgjhebjaaGreatDoorKWantedSays17
import Derived.Test.YtfphmlmgjhebjaaGreatDoorKWantedSays18
set_option linter.unusedVariables false
set_option linter.unusedSimpArgs false
namespace Go.Ulp
open Go.RowKit
def isMk (b:UInt8):Bool:=b==45||b==43||b==32||b==48||b==35
def isVb (b:UInt8):Bool:=b==101||b==102||b==103||b==97
def spV (verb:Int) (F:List UInt8) (wd pr:Int):Array Value:= #[.int .i64 verb,.bool (F.contains 45),.bool (F.contains 43),.bool (F.contains 32),.bool (F.contains 48),.bool (F.contains 35),.int .i64 wd,.int .i64 pr]
def V8 (w:World) (g:Nat) (c:Array Value):Prop:= ∀i,i<8→w.cell? ⟨g,i,none⟩=some (c.getD i undef)∧w.frozen? ⟨g,i,none⟩=false
theorem V8.lt {w:World} {g:Nat} {c:Array Value} (h:V8 w g c):g<w.heap.size:=World.block_lt_of_cell? w _ (h 0 (by omega)).1
theorem V8.below {w w':World} {g:Nat} {c:Array Value} (h:V8 w g c) (hb:Below w.heap.size w w'):V8 w' g c:=fun i hi=>
 ⟨(hb.cell (p:=⟨g,i,none⟩) h.lt).trans (h i hi).1,(hb.frozen (p:=⟨g,i,none⟩) h.lt).trans (h i hi).2⟩
theorem V8.made {w:World} {g:Nat} {a b c d e f m n:Value} {t:TypeId} (hg:g=w.heap.size):V8 (w.alloc (.cells #[a,b,c,d,e,f,m,n] t)) g #[a,b,c,d,e,f,m,n]:=by
 subst hg
 intro i hi
 have hh:(w.alloc (.cells #[a,b,c,d,e,f,m,n] t)).frozen? ⟨w.heap.size,i,none⟩=false:=by unfold World.frozen?;rw [heap_alloc_new];simp
 refine ⟨?_,hh⟩
 rcases (show i=0∨i=1∨i=2∨i=3∨i=4∨i=5∨i=6∨i=7 by omega) with e|e|e|e|e|e|e|e<;>subst e<;>(rw [World.cell?_alloc_at (hn:=rfl)];rfl)
theorem V8.far {w:World} {g:Nat} {c:Array Value} (h:V8 w g c) (a:Addr) (u:Value) (hne:g≠a.block):V8 (w.setCell a u) g c:=fun i hi=>
 ⟨by rw [World.cell?_setCell_other (h:=fun e=>hne (by rw [e]))];exact (h i hi).1,by rw [frozen_setCell];exact (h i hi).2⟩
theorem V8.set {w:World} {g:Nat} {c:Array Value} (h:V8 w g c) (hc:c.size=8) (o:Nat) (ho:o<8) (u:Value):V8 (w.setCell ⟨g,o,none⟩ u) g (c.setIfInBounds o u):=by
 intro i hi
 refine ⟨?_,by rw [frozen_setCell];exact (h i hi).2⟩
 by_cases e:i=o
 ·subst e
  rw [World.cell?_setCell_same (w:=w) _ _ (h i hi).1]
  simp [Array.getD_eq_getD_getElem?,hc,hi]
 ·rw [World.cell?_setCell_other (h:=fun k=>e (by injection k with _ k;exact k.symm))]
  rw [(h i hi).1]
  simp [Array.getD_eq_getD_getElem?,Array.getElem?_setIfInBounds,Ne.symm e]
theorem V8.cells {w:World} {g:Nat} {a b c d e f m n:Value} (h:V8 w g #[a,b,c,d,e,f,m,n]):
 (w.cell? ⟨g,0,none⟩=some a∧w.cell? ⟨g,1,none⟩=some b∧w.cell? ⟨g,2,none⟩=some c∧w.cell? ⟨g,3,none⟩=some d∧w.cell? ⟨g,4,none⟩=some e∧w.cell? ⟨g,5,none⟩=some f∧w.cell? ⟨g,6,none⟩=some m∧w.cell? ⟨g,7,none⟩=some n)∧
 (w.frozen? ⟨g,0,none⟩=false∧w.frozen? ⟨g,1,none⟩=false∧w.frozen? ⟨g,2,none⟩=false∧w.frozen? ⟨g,3,none⟩=false∧w.frozen? ⟨g,4,none⟩=false∧w.frozen? ⟨g,5,none⟩=false∧w.frozen? ⟨g,6,none⟩=false∧w.frozen? ⟨g,7,none⟩=false):=
 ⟨⟨(h 0 (by omega)).1,(h 1 (by omega)).1,(h 2 (by omega)).1,(h 3 (by omega)).1,(h 4 (by omega)).1,(h 5 (by omega)).1,(h 6 (by omega)).1,(h 7 (by omega)).1⟩,
  ⟨(h 0 (by omega)).2,(h 1 (by omega)).2,(h 2 (by omega)).2,(h 3 (by omega)).2,(h 4 (by omega)).2,(h 5 (by omega)).2,(h 6 (by omega)).2,(h 7 (by omega)).2⟩⟩
theorem wp_worldW {P:Program} {c:Code} {Q:Exit→Act→World→Prop} {a:Act} {w0:World} (F:World→Prop) (hF:F w0) (h: ∀w,F w→Code.wp P c Q a w):Code.wp P c Q a w0:=h w0 hF
theorem mark_set (verb wd pr:Int) (F:List UInt8) (b:UInt8) (hb:isMk b=true):1≤mkO (b.toNat:Int)∧mkO (b.toNat:Int)≤5∧(spV verb F wd pr).setIfInBounds (mkO (b.toNat:Int)) (.bool true)=spV verb (F++ [b]) wd pr:=by
 have h:b=45∨b=43∨b=32∨b=48∨b=35:=by
  unfold isMk at hb
  simp only [Bool.or_eq_true,beq_iff_eq] at hb
  rcases hb with (((h|h)|h)|h)|h
  ·exact .inl h
  ·exact .inr (.inl h)
  ·exact .inr (.inr (.inl h))
  ·exact .inr (.inr (.inr (.inl h)))
  ·exact .inr (.inr (.inr (.inr h)))
 have ct: ∀c:UInt8,(F++ [b]).contains c=(F.contains c||c==b):=fun c=>by
  rw [Bool.eq_iff_iff]
  simp
 unfold spV
 rw [ct 45,ct 43,ct 32,ct 48,ct 35]
 rcases h with h|h|h|h|h<;>subst h<;>refine ⟨by decide,by decide,?_⟩
 ·show #[Value.int .i64 verb,.bool true,.bool (F.contains 43),.bool (F.contains 32),.bool (F.contains 48),.bool (F.contains 35),.int .i64 wd,.int .i64 pr]=_
  rw [show ((45:UInt8)==45)=true from rfl,show ((43:UInt8)==45)=false from rfl,show ((32:UInt8)==45)=false from rfl,show ((48:UInt8)==45)=false from rfl,show ((35:UInt8)==45)=false from rfl]
  simp only [Bool.or_true,Bool.or_false]
 ·show #[Value.int .i64 verb,.bool (F.contains 45),.bool true,.bool (F.contains 32),.bool (F.contains 48),.bool (F.contains 35),.int .i64 wd,.int .i64 pr]=_
  rw [show ((45:UInt8)==43)=false from rfl,show ((43:UInt8)==43)=true from rfl,show ((32:UInt8)==43)=false from rfl,show ((48:UInt8)==43)=false from rfl,show ((35:UInt8)==43)=false from rfl]
  simp only [Bool.or_true,Bool.or_false]
 ·show #[Value.int .i64 verb,.bool (F.contains 45),.bool (F.contains 43),.bool true,.bool (F.contains 48),.bool (F.contains 35),.int .i64 wd,.int .i64 pr]=_
  rw [show ((45:UInt8)==32)=false from rfl,show ((43:UInt8)==32)=false from rfl,show ((32:UInt8)==32)=true from rfl,show ((48:UInt8)==32)=false from rfl,show ((35:UInt8)==32)=false from rfl]
  simp only [Bool.or_true,Bool.or_false]
 ·show #[Value.int .i64 verb,.bool (F.contains 45),.bool (F.contains 43),.bool (F.contains 32),.bool true,.bool (F.contains 35),.int .i64 wd,.int .i64 pr]=_
  rw [show ((45:UInt8)==48)=false from rfl,show ((43:UInt8)==48)=false from rfl,show ((32:UInt8)==48)=false from rfl,show ((48:UInt8)==48)=true from rfl,show ((35:UInt8)==48)=false from rfl]
  simp only [Bool.or_true,Bool.or_false]
 ·show #[Value.int .i64 verb,.bool (F.contains 45),.bool (F.contains 43),.bool (F.contains 32),.bool (F.contains 48),.bool true,.int .i64 wd,.int .i64 pr]=_
  rw [show ((45:UInt8)==35)=false from rfl,show ((43:UInt8)==35)=false from rfl,show ((32:UInt8)==35)=false from rfl,show ((48:UInt8)==35)=false from rfl,show ((35:UInt8)==35)=true from rfl]
  simp only [Bool.or_true,Bool.or_false]
theorem mark_none (b:UInt8) (hb:isMk b=false):mkO (b.toNat:Int)=0:=by
 unfold isMk at hb
 simp only [Bool.or_eq_false_iff,beq_eq_false_iff_ne,ne_eq] at hb
 obtain ⟨⟨⟨⟨h1,h2⟩,h3⟩,h4⟩,h5⟩:=hb
 have key: ∀c:UInt8,b≠c→(b.toNat:Int)≠(c.toNat:Int):=fun c hc e=>hc (UInt8.toNat_inj.1 (by omega))
 unfold mkO
 rw [if_neg (show ¬(b.toNat:Int)=45 from key 45 h1),if_neg (show ¬(b.toNat:Int)=43 from key 43 h2),if_neg (show ¬(b.toNat:Int)=32 from key 32 h3),if_neg (show ¬(b.toNat:Int)=48 from key 48 h4),if_neg (show ¬(b.toNat:Int)=35 from key 35 h5)]
def wpF (T:List UInt8):List UInt8:=T.takeWhile isMk
def wpR (T:List UInt8):List UInt8:=T.dropWhile isMk
def wpT (T:List UInt8):Bool:=Lib.hasPrefix (dpD (wpR T)) [46]
def wpQ (T:List UInt8):List UInt8:=(dpD (wpR T)).drop 1
def wpE (T:List UInt8):List UInt8:=if wpT T=true then dpD (wpQ T) else dpD (wpR T)
def wpP (c:Nat) (T:List UInt8):Int:=if wpT T=true then (cpN c (wpQ T):Int) else -1
def wpX (c:Nat) (L:List UInt8):Int:=
 if Lib.hasPrefix L [37]=false then 5 else match wpE (L.drop 1) with
  | [v]=>if isVb v=true then (if 200<cpN c (wpR (L.drop 1))∨100<wpP c (L.drop 1) then 1 else 0) else 5
  |_=>5
def wpV (c:Nat) (L:List UInt8):Array Value:=if wpX c L=0 then spV (((wpE (L.drop 1)).getD 0 0).toNat:Int) (wpF (L.drop 1)) (cpN c (wpR (L.drop 1)):Int) (wpP c (L.drop 1)) else spV 0 [] 0 0
theorem wpX_nil (c:Nat) {T:List UInt8} (h:wpE T= []):wpX c (37::T)=5:=by
 unfold wpX
 rw [if_neg (show ¬Lib.hasPrefix (37::T) [37]=false by simp [Lib.hasPrefix])]
 show (match wpE T with| [v]=>_|_=>(5:Int))=5
 rw [h]
theorem wpX_two (c:Nat) {T:List UInt8} {a b:UInt8} {r:List UInt8} (h:wpE T=a::b::r):wpX c (37::T)=5:=by
 unfold wpX
 rw [if_neg (show ¬Lib.hasPrefix (37::T) [37]=false by simp [Lib.hasPrefix])]
 show (match wpE T with| [v]=>_|_=>(5:Int))=5
 rw [h]
theorem wpX_one (c:Nat) {T:List UInt8} {v:UInt8} (h:wpE T= [v]):wpX c (37::T)=if isVb v=true then (if 200<cpN c (wpR T)∨100<wpP c T then 1 else 0) else 5:=by
 unfold wpX
 rw [if_neg (show ¬Lib.hasPrefix (37::T) [37]=false by simp [Lib.hasPrefix])]
 show (match wpE T with| [v]=>if isVb v=true then (if 200<cpN c (wpR T)∨100<wpP c T then (1:Int) else 0) else 5|_=>(5:Int))=_
 rw [h]
theorem wpV_bad (c:Nat) {T:List UInt8} (h:wpX c (37::T)≠0):wpV c (37::T)=spV 0 [] 0 0:=by unfold wpV;rw [if_neg h]
theorem wpV_ok (c:Nat) {T:List UInt8} {v:UInt8} (h:wpX c (37::T)=0) (hE:wpE T= [v]):wpV c (37::T)=spV (v.toNat:Int) (wpF T) (cpN c (wpR T):Int) (wpP c T):=by
 unfold wpV
 rw [if_pos h]
 show spV (((wpE T).getD 0 0).toNat:Int) _ _ _=_
 rw [hE];rfl
theorem wp_split {T F R:List UInt8} (h:T=F++R) (hF: ∀b∈F,isMk b=true) (hR:R= []∨ ∃b r,R=b::r∧isMk b=false):wpF T=F∧wpR T=R:=by
 subst h
 unfold wpF wpR
 induction F with
 |nil=>
  rcases hR with e|⟨b,r,e,hb⟩
  ·subst e;exact ⟨rfl,rfl⟩
  ·subst e
   exact ⟨List.takeWhile_cons_of_neg (by rw [hb];decide),List.dropWhile_cons_of_neg (by rw [hb];decide)⟩
 |cons b F ih=>
  have h1:=hF b (List.mem_cons_self ..)
  obtain ⟨a1,a2⟩:=ih (fun x hx=>hF x (List.mem_cons_of_mem _ hx))
  exact ⟨by rw [List.cons_append,List.takeWhile_cons_of_pos h1,a1],by rw [List.cons_append,List.dropWhile_cons_of_pos h1,a2]⟩
theorem vb_index (v:UInt8):decide (Lib.indexByte [101,102,103,97] ((v.toNat:Int).toNat.toUInt8)<0)=!isVb v:=by
 have e:((v.toNat:Int).toNat.toUInt8)=v:=by simp
 rw [e]
 unfold isVb
 by_cases h1:v=101
 ·subst h1;decide
 by_cases h2:v=102
 ·subst h2;decide
 by_cases h3:v=103
 ·subst h3;decide
 by_cases h4:v=97
 ·subst h4;decide
 have f1:(v==101)=false:=beq_eq_false_iff_ne.2 h1
 have f2:(v==102)=false:=beq_eq_false_iff_ne.2 h2
 have f3:(v==103)=false:=beq_eq_false_iff_ne.2 h3
 have f4:(v==97)=false:=beq_eq_false_iff_ne.2 h4
 rw [f1,f2,f3,f4]
 simp [Lib.indexByte,h1,h2,h3,h4,f1,f2,f3,f4,Ne.symm h1,Ne.symm h2,Ne.symm h3,Ne.symm h4]
end Go.Ulp
namespace Go.Proofs.YtfphmlmgjhebjaaGreatDoor
open Go.RowKit Go.Ulp
set_option maxHeartbeats 8000000
set_option maxRecDepth 100000
theorem wparse_none (L:List UInt8) (w:World) (h:Lib.hasPrefix L [37]=false):
 Calls Tryz.prog 22 #[.string (bsOf L)] w fun e w'=>e=.returned (.tuple #[.agg (spV 0 [] 0 0),.int .i64 5])∧Below w.heap.size w w':=by
 have CP:=hid (fun w=>Tryz.strings_CutPrefix (bsOf L) ⟨#[37]⟩ w)
 rw [bs_list] at CP
 have hCP:Hid (∀w,Calls Tryz.prog 64 #[.string (bsOf L),.string ⟨#[37]⟩] w fun e w'=>e=.returned (.tuple #[.string (bsOf (Lib.trimPrefix L [37])),.bool false])∧w=w'):=hid (fun w=>(CP.out w).mono (by rintro e w' ⟨rfl,rfl⟩;exact ⟨by rw [show (⟨#[37]⟩:ByteArray).data.toList= [37] from rfl,h];rfl,rfl⟩))
 clear CP h
 go_enter Tryz.func22,Tryz.ntmps22
 have z2:V8 (w.alloc (.cells #[.int .i64 0,.bool false,.bool false,.bool false,.bool false,.bool false,.int .i64 0,.int .i64 0] 50)) w.heap.size #[.int .i64 0,.bool false,.bool false,.bool false,.bool false,.bool false,.int .i64 0,.int .i64 0]:=V8.made rfl
 obtain ⟨⟨k0,k1,k2,k3,k4,k5,k6,k7⟩,-⟩:=z2.cells
 go_wp2_with (go_at_call 64;(with_reducible refine (hCP.out _).mono ?_);rintro en w1 ⟨rfl,rfl⟩)
 refine bodyPost_ret (by simp [results,Tryz.results22,go_sem,k0,k1,k2,k3,k4,k5,k6,k7];try rfl) rfl ?_
 exact ⟨rfl,by (repeat' first|(with_reducible first|apply bR|assumption|apply bN|apply bD|apply bL|apply bS)|go_size)⟩
def PW (w W:World) (g2 g5:Nat) (c:Array Value):Prop:=Below w.heap.size w W∧V8 W g2 #[.int .i64 0,.bool false,.bool false,.bool false,.bool false,.bool false,.int .i64 0,.int .i64 0]∧V8 W g5 c
theorem PW.below {w W W':World} {g2 g5:Nat} {c:Array Value} (h:PW w W g2 g5 c) (hb:Below W.heap.size W W'):PW w W' g2 g5 c:=⟨h.1.trans (hb.mono h.1.size),h.2.1.below hb,h.2.2.below hb⟩
theorem PW.set {w W:World} {g2 g5:Nat} {c:Array Value} (h:PW w W g2 g5 c) (hc:c.size=8) (hw:w.heap.size≤g5) (hne:g2≠g5) (o:Nat) (ho:o<8) (u:Value):PW w (W.setCell ⟨g5,o,none⟩ u) g2 g5 (c.setIfInBounds o u):=
 ⟨h.1.setCell hw u,h.2.1.far _ _ hne,h.2.2.set hc o ho u⟩
theorem wparse_any (T:List UInt8) (w:World) (hl:T.length≤9223372036854775806):
 Calls Tryz.prog 22 #[.string (bsOf (37::T))] w fun e w'=>e=.returned (.tuple #[.agg (wpV 100000 (37::T)),.int .i64 (wpX 100000 (37::T))])∧Below w.heap.size w w':=by
 have CP:=hid (fun w=>Tryz.strings_CutPrefix (bsOf (37::T)) ⟨#[37]⟩ w)
 rw [bs_list] at CP
 have hCP:Hid (∀w,Calls Tryz.prog 64 #[.string (bsOf (37::T)),.string ⟨#[37]⟩] w fun e w'=>e=.returned (.tuple #[.string (bsOf T),.bool true])∧w=w'):=hid (fun w=>(CP.out w).mono (by rintro e w' ⟨rfl,rfl⟩;exact ⟨rfl,rfl⟩))
 clear CP
 obtain ⟨XX,hXX⟩: ∃X,X=wpX 100000 (37::T):=⟨_,rfl⟩
 obtain ⟨VV,hVV⟩: ∃X,X=wpV 100000 (37::T):=⟨_,rfl⟩
 rw [←hXX,←hVV]
 have HX:=hid hXX
 have HV:=hid hVV
 obtain ⟨Q,hQ⟩: ∃Q,Q=bsOf (37::T):=⟨_,rfl⟩
 rw [←hQ] at hCP ⊢
 have hmm:= @run_makeMap Tryz.prog
 clear hXX hVV hQ
 go_enter Tryz.func22,Tryz.ntmps22
 go_upto_region 5 with (go_at_call 64;(with_reducible refine (hCP.out _).mono ?_);rintro en w1 ⟨rfl,rfl⟩)
 refine wp_worldW (fun WW=>PW w WW w.heap.size (w.heap.size+1) (spV 0 [] 0 (-1))) ⟨by (repeat' first|(with_reducible first|assumption|apply bR|apply bA|apply bN|apply bD|apply bL|apply bS)|refine bT ?_ (by assumption)|go_size),(V8.made rfl).below (below_alloc _ _),V8.made (by first|omega|(simp;done)|(simp;omega))⟩ ?_
 intro W pw
 obtain ⟨g2,hg2⟩: ∃g,g=w.heap.size:=⟨_,rfl⟩
 obtain ⟨g5,hg5⟩: ∃g,g=w.heap.size+1:=⟨_,rfl⟩
 have b2:w.heap.size≤g2:=by omega
 have b5:w.heap.size≤g5:=by omega
 have ne:g2≠g5:=by omega
 rw [←hg5,←hg2] at pw
 rw [←hg5,←hg2]
 clear hg2 hg5
 have HPW:=hid pw
 have u1:(Instr.mapUpdate 97 (.map (some W.heap.size)) (.int .u8 45) (.pointer (some ⟨g5,1,none⟩))).run Tryz.prog (W.alloc (.map #[] 0))=.ok () (W.alloc (.map #[mkE g5 45 1 0] 1)):=run_upd_u8 mark_map mark_key _ rfl _ _ _ _ rfl
 have u2:(Instr.mapUpdate 97 (.map (some W.heap.size)) (.int .u8 43) (.pointer (some ⟨g5,2,none⟩))).run Tryz.prog (W.alloc (.map #[mkE g5 45 1 0] 1))=.ok () (W.alloc (.map #[mkE g5 45 1 0,mkE g5 43 2 1] 2)):=run_upd_u8 mark_map mark_key _ rfl _ _ _ _ rfl
 have u3:(Instr.mapUpdate 97 (.map (some W.heap.size)) (.int .u8 32) (.pointer (some ⟨g5,3,none⟩))).run Tryz.prog (W.alloc (.map #[mkE g5 45 1 0,mkE g5 43 2 1] 2))=.ok () (W.alloc (.map #[mkE g5 45 1 0,mkE g5 43 2 1,mkE g5 32 3 2] 3)):=run_upd_u8 mark_map mark_key _ rfl _ _ _ _ rfl
 have u4:(Instr.mapUpdate 97 (.map (some W.heap.size)) (.int .u8 48) (.pointer (some ⟨g5,4,none⟩))).run Tryz.prog (W.alloc (.map #[mkE g5 45 1 0,mkE g5 43 2 1,mkE g5 32 3 2] 3))=.ok () (W.alloc (.map #[mkE g5 45 1 0,mkE g5 43 2 1,mkE g5 32 3 2,mkE g5 48 4 3] 4)):=run_upd_u8 mark_map mark_key _ rfl _ _ _ _ rfl
 have u5:(Instr.mapUpdate 97 (.map (some W.heap.size)) (.int .u8 35) (.pointer (some ⟨g5,5,none⟩))).run Tryz.prog (W.alloc (.map #[mkE g5 45 1 0,mkE g5 43 2 1,mkE g5 32 3 2,mkE g5 48 4 3] 4))=.ok () (W.alloc (.map (mkM g5) 5)):=run_upd_u8 mark_map mark_key _ rfl _ _ _ _ rfl
 have hh:(W.alloc (.map (mkM g5) 5)).heap[W.heap.size]? =some (.map (mkM g5) 5):=heap_alloc_new W _
 have HH:=hid (And.intro hh (pw.below (below_alloc W (.map (mkM g5) 5))))
 clear hh pw
 go_wp2_with fail
 refine wp_worldW (fun WW=>WW.heap[W.heap.size]? =some (.map (mkM g5) 5)∧PW w WW g2 g5 (spV 0 [] 0 (-1))) HH.out ?_
 intro W1 hW1
 obtain ⟨gm,hgm⟩: ∃g,g=W.heap.size:=⟨_,rfl⟩
 have nm5:gm≠g5:=by have:=HPW.out.2.2.lt;omega
 have nm2:gm≠g2:=by have:=HPW.out.2.1.lt;omega
 rw [←hgm] at hW1 ⊢
 have HH1:=hid hW1
 clear hW1 HH HPW u1 u2 u3 u4 u5 hgm hmm
 go_loopw [0] (fun s0 wr=> ∃(F R:List UInt8),s0=.string (bsOf R)∧T=F++R∧(∀b∈F,isMk b=true)∧wr.heap[gm]? =some (.map (mkM g5) 5)∧PW w wr g2 g5 (spV 0 F 0 (-1))) (fun s0 _=>szOf s0)
 case atStart=>exact ⟨[],T,rfl,rfl,fun b hb=>by simp at hb,HH1.out.1,HH1.out.2⟩
 case round=>
  obtain ⟨F,R,rfl,hFR,hF,hmap,pw⟩:=hrel
  clear HH1
  have HFR:=hid hFR
  have HF:=hid hF
  clear hFR hF
  have HPW:=hid pw
  have HMP:=hid hmap
  obtain ⟨RR,hRR⟩: ∃RR,RR=R:=⟨_,rfl⟩
  obtain ⟨Q,hQ⟩: ∃Q,Q=bsOf R:=⟨_,rfl⟩
  have HRR:=hid hRR
  have HQ:=hid hQ
  clear hRR
  cases R with
  |nil=>
   have hq:((bsOf []).toList== [])=true:=by rw [bs_toList];rfl
   obtain ⟨eF,eR⟩:=wp_split HFR.out HF.out (.inl rfl)
   have eE:wpE T= []:=by unfold wpE wpT wpQ;rw [eR];rfl
   have hx:XX=5:=by rw [HX.out];exact wpX_nil 100000 eE
   have hv:VV=spV 0 [] 0 0:=by rw [HV.out];exact wpV_bad 100000 (by rw [←HX.out,hx];decide)
   have N1:=hid (numberW_any [] wr (by simp))
   rw [show ((cpN 100000 []:Nat):Int)=0 from rfl,show dpD []= [] from rfl] at N1
   have CQ:=hid (fun w=>Tryz.strings_CutPrefix (bsOf []) ⟨#[46]⟩ w)
   rw [bs_list] at CQ
   have hCQ:Hid (∀w,Calls Tryz.prog 64 #[.string (bsOf []),.string ⟨#[46]⟩] w fun e w'=>e=.returned (.tuple #[.string (bsOf []),.bool false])∧w=w'):=hid (fun w=>(CQ.out w).mono (by rintro e w' ⟨rfl,rfl⟩;exact ⟨rfl,rfl⟩))
   have hsz:(bsOf []).size=0:=rfl
   obtain ⟨⟨c0,c1,c2,c3,c4,c5,c6,c7⟩,⟨f0,f1,f2,f3,f4,f5,f6,f7⟩⟩:=(show V8 wr g5 #[.int .i64 0,.bool (F.contains 45),.bool (F.contains 43),.bool (F.contains 32),.bool (F.contains 48),.bool (F.contains 35),.int .i64 0,.int .i64 (-1)] from HPW.out.2.2).cells
   have HPW1:=hid (show PW w (wr.setCell ⟨g5,6,none⟩ (.int .i64 0)) g2 g5 (spV 0 F 0 (-1)) from HPW.out.set (by rfl) b5 ne 6 (by omega) (.int .i64 0))
   subst hx hv
   rw [←hQ] at hq N1 hCQ hsz ⊢
   clear pw hmap hQ CQ HX HV HRR HQ HFR HF eF eR eE HMP HPW
   go_upto_region 10 with (go_at_call 65;(with_reducible refine (N1.out).mono ?_);rintro en w1 ⟨rfl,rfl⟩)
   refine wp_worldW (fun WW=>PW w WW g2 g5 (spV 0 F 0 (-1))) HPW1.out ?_
   intro W2 pw2
   obtain ⟨⟨z0,z1,z2,z3,z4,z5,z6,z7⟩,⟨y0,y1,y2,y3,y4,y5,y6,y7⟩⟩:=pw2.2.1.cells
   have PB:=hid pw2.1
   clear HPW1 N1 c0 c1 c2 c3 c4 c5 c6 c7 f0 f1 f2 f3 f4 f5 f6 f7 pw2
   go_wp2_with (go_at_call 64;(with_reducible refine (hCQ.out _).mono ?_);rintro en w1 ⟨rfl,rfl⟩)
   refine bodyPost_ret (by simp [results,Tryz.results22,go_sem,z0,z1,z2,z3,z4,z5,z6,z7];try rfl) rfl ?_
   exact ⟨rfl,by have:=PB.out;(repeat' first|(with_reducible first|assumption|apply bR|apply bA|apply bN|apply bD|apply bL|apply bS)|refine bT ?_ (by assumption)|go_size)⟩
  |cons b r=>
   have hq:((bsOf (b::r)).toList== [])=false:=by rw [bs_toList];rfl
   have hix: ∀w,(Instr.index 9 (.string (bsOf (b::r))) (.int .i64 0)).run Tryz.prog w=.ok (.int .u8 (b.toNat:Int)) w:=run_index (P:=Tryz.prog) Tryz.underlying9 (b::r) 0 b r rfl
   have hsl: ∀w,(Instr.slice 9 (.string (bsOf (b::r))) (some (.int .i64 1)) none none).run Tryz.prog w=.ok (.string (bsOf r)) w:=slice_from (P:=Tryz.prog) Tryz.underlying9 (b::r) 1 (by omega) (by rw [List.length_cons];omega)
   obtain ⟨fr,hfr,hfv⟩:=find_mark g5 (b.toNat:Int)
   have hlk:(Instr.lookup 97 (.map (some gm)) (.int .u8 (b.toNat:Int)) false).run Tryz.prog wr=.ok (mkV g5 (b.toNat:Int)) wr:=by
    rw [run_look_u8 mark_map mark_key hmap (b.toNat:Int) (mark_zero wr) fr hfr,hfv]
   have hszQ:szOf (.string Q)=r.length+1:=by rw [hQ,szOf_bs];rfl
   rw [←hQ] at hq hix hsl ⊢
   clear hQ hfr hfv
   cases hmb:isMk b
   case true=>
    obtain ⟨o1,o2,hset⟩:=mark_set 0 0 (-1) F b hmb
    have hV:mkV g5 (b.toNat:Int)=.pointer (some ⟨g5,mkO (b.toNat:Int),none⟩):=by unfold mkV;rw [if_neg (by omega)]
    rw [hV] at hlk
    obtain ⟨x,hx⟩: ∃x:Int,x=(b.toNat:Int):=⟨_,rfl⟩
    rw [←hx] at hix hlk o1 o2 hset
    obtain ⟨o,ho⟩: ∃o,o=mkO x:=⟨_,rfl⟩
    rw [←ho] at hlk o1 o2 hset
    have pw2:=pw.set (by rfl) b5 ne o (by omega) (.bool true)
    rw [hset] at pw2
    have hcell:=(pw.2.2 o (by omega))
    have hm2:(wr.setCell ⟨g5,o,none⟩ (.bool true)).heap[gm]? =some (.map (mkM g5) 5):=by
     rw [Below.heap_setCell _ _ _ _ nm5];exact hmap
    have HPW2:=hid (And.intro pw2 hm2)
    have HSZ:=hid hszQ
    have HMB:=hid hmb
    obtain ⟨hc0,hf0⟩:=hcell
    clear hset pw pw2 hm2 hmap hV hx ho hszQ HPW HMP hmb HRR HQ
    go_wp2_with fail
    go_roundw
    case rel=>exact ⟨F++ [b],r,rfl,by rw [HFR.out];simp,fun y hy=>by rcases List.mem_append.1 hy with h|h;exact HF.out y h;rw [List.mem_singleton.1 h];exact HMB.out,HPW2.out.2,HPW2.out.1⟩
    case measure=>rw [HSZ.out,szOf_bs];omega
   case false=>
    have hV:mkV g5 (b.toNat:Int)=.pointer none:=by unfold mkV;rw [if_pos (mark_none b hmb)]
    rw [hV] at hlk
    have ho:RR= []∨ ∃b r,RR=b::r∧isMk b=false:=.inr ⟨b,r,HRR.out,hmb⟩
    generalize (b.toNat:Int)=x at *
    clear hszQ hsl pw hmap hV hmb
    have hFR:T=F++RR:=by rw [HRR.out];exact HFR.out
    obtain ⟨eF,eR⟩:=wp_split hFR HF.out ho
    have lR:RR.length≤9223372036854775806:=by have:=congrArg List.length hFR;rw [List.length_append] at this;omega
    have HEF:=hid (And.intro eF eR)
    have N1:=hid (numberW_any RR wr lR)
    rw [show bsOf RR=Q by rw [HQ.out,HRR.out]] at N1
    clear eF eR hFR HFR HF ho HRR HQ
    obtain ⟨⟨c0,c1,c2,c3,c4,c5,c6,c7⟩,⟨f0,f1,f2,f3,f4,f5,f6,f7⟩⟩:=(show V8 wr g5 #[.int .i64 0,.bool (F.contains 45),.bool (F.contains 43),.bool (F.contains 32),.bool (F.contains 48),.bool (F.contains 35),.int .i64 0,.int .i64 (-1)] from HPW.out.2.2).cells
    obtain ⟨cN,hcN⟩: ∃c:Int,c=((cpN 100000 RR:Nat):Int):=⟨_,rfl⟩
    rw [←hcN] at N1
    have HPW1:=hid (show PW w (wr.setCell ⟨g5,6,none⟩ (.int .i64 cN)) g2 g5 (spV 0 F cN (-1)) from HPW.out.set (by rfl) b5 ne 6 (by omega) (.int .i64 cN))
    have hcb:0≤cN∧cN≤100000:=by rw [hcN];unfold cpN;omega
    have HCN:=hid hcN
    clear HPW HMP hcN
    go_upto_region 10 with (go_at_call 65;(with_reducible refine (N1.out).mono ?_);rintro en w1 ⟨rfl,rfl⟩)
    refine wp_worldW (fun WW=>PW w WW g2 g5 (spV 0 F cN (-1))) HPW1.out ?_
    intro W2 pw2
    clear HPW1 N1 c0 c1 c2 c3 c4 c5 c6 c7 f0 f1 f2 f3 f4 f5 f6 f7
    obtain ⟨E1,hE1⟩: ∃E,E=dpD RR:=⟨_,rfl⟩
    have lE:E1.length≤9223372036854775806:=by have:=dp_len RR;rw [hE1];omega
    have CQ:=hid (fun w=>Tryz.strings_CutPrefix (bsOf E1) ⟨#[46]⟩ w)
    rw [bs_list] at CQ
    obtain ⟨pt,hpt⟩: ∃b,b=Lib.hasPrefix E1 [46]:=⟨_,rfl⟩
    obtain ⟨S2,hS2⟩: ∃S,S=Lib.trimPrefix E1 [46]:=⟨_,rfl⟩
    have hCQ:Hid (∀w,Calls Tryz.prog 64 #[.string (bsOf E1),.string ⟨#[46]⟩] w fun e w'=>e=.returned (.tuple #[.string (bsOf S2),.bool pt])∧w=w'):=hid (fun w=>(CQ.out w).mono (by rintro e w' ⟨rfl,rfl⟩;exact ⟨by rw [hS2,hpt];rfl,rfl⟩))
    clear CQ
    rw [←hE1]
    have wT1:wpT T=pt:=by unfold wpT;rw [HEF.out.2,←hE1,hpt]
    have wE1:wpE T=if pt=true then dpD S2 else E1:=by
     unfold wpE wpQ;rw [wT1,HEF.out.2,←hE1]
     cases pt
     ·rfl
     ·rw [if_pos rfl,if_pos rfl,hS2];unfold Lib.trimPrefix;rw [if_pos hpt.symm];rfl
    have wP1:wpP 100000 T=if pt=true then ((cpN 100000 S2:Nat):Int) else -1:=by
     unfold wpP wpQ;rw [wT1,HEF.out.2,←hE1]
     cases pt
     ·rfl
     ·rw [if_pos rfl,if_pos rfl,hS2];unfold Lib.trimPrefix;rw [if_pos hpt.symm];rfl
    have lS:S2.length≤9223372036854775806:=by rw [hS2];unfold Lib.trimPrefix;split;(simp;omega);exact lE
    have HPW2:=hid pw2
    have HWE:=hid wE1
    have HWP:=hid wP1
    clear pw2 wT1 wE1 wP1 hS2 hpt hE1
    go_upto_if 52 with (go_at_call 64;(with_reducible refine (hCQ.out _).mono ?_);rintro en w1 ⟨rfl,rfl⟩)
    go_cut [0] (fun s wx=> ∃(EE:List UInt8) (pr:Int),s=.string (bsOf EE)∧EE=wpE T∧pr=wpP 100000 T∧PW w wx g2 g5 (spV 0 F cN pr))
    case first=>as_aux_lemma=>
     clear HEF HCN HX HV hcb
     cases pt
     ·have e1:E1=wpE T:=by rw [HWE.out];rfl
      have e2:(-1:Int)=wpP 100000 T:=by rw [HWP.out];rfl
      have T9:=hid (And.intro e1 e2)
      clear HWE HWP e1 e2
      go_wp2_with fail
      go_meet
      exact ⟨_,_,rfl,T9.out.1,T9.out.2,HPW2.out⟩
     ·have N2:=hid (numberW_any S2 W2 lS)
      obtain ⟨c2,hc2⟩: ∃c:Int,c=((cpN 100000 S2:Nat):Int):=⟨_,rfl⟩
      rw [←hc2] at N2
      have e1:dpD S2=wpE T:=by rw [HWE.out];rfl
      have e2:c2=wpP 100000 T:=by rw [HWP.out,hc2];rfl
      have T9:=hid (And.intro e1 e2)
      obtain ⟨⟨-,-,-,-,-,-,-,k7⟩,⟨-,-,-,-,-,-,-,q7⟩⟩:=(show V8 W2 g5 #[.int .i64 0,.bool (F.contains 45),.bool (F.contains 43),.bool (F.contains 32),.bool (F.contains 48),.bool (F.contains 35),.int .i64 cN,.int .i64 (-1)] from HPW2.out.2.2).cells
      have HPW3:=hid (show PW w (W2.setCell ⟨g5,7,none⟩ (.int .i64 c2)) g2 g5 (spV 0 F cN c2) from HPW2.out.set (by rfl) b5 ne 7 (by omega) (.int .i64 c2))
      clear HWE HWP e1 e2 HPW2 hc2
      go_wp2_with (go_at_call 65;(with_reducible refine (N2.out).mono ?_);rintro en w1 ⟨rfl,rfl⟩)
      go_meet
      exact ⟨_,_,rfl,T9.out.1,T9.out.2,HPW3.out⟩
    case rest=>
    obtain ⟨EE,pr,rfl,eEE,epr,pw3⟩:=hcut
    obtain ⟨W3,hW3⟩: ∃W,W=wc:=⟨_,rfl⟩
    subst hW3
    clear HWE HWP HPW2 hCQ
    obtain ⟨⟨z0,z1,z2,z3,z4,z5,z6,z7⟩,⟨y0,y1,y2,y3,y4,y5,y6,y7⟩⟩:=pw3.2.1.cells
    have eF:=HEF.out.1
    have eR:=HEF.out.2
    cases EE with
    |nil=>
     have hx:XX=5:=by rw [HX.out];exact wpX_nil 100000 eEE.symm
     have hv:VV=spV 0 [] 0 0:=by rw [HV.out];exact wpV_bad 100000 (by rw [←HX.out,hx];decide)
     have hsz:(bsOf []).size=0:=rfl
     have PB:=hid pw3.1
     subst hx hv
     clear eEE HX HV HEF eF eR HCN epr pw3 lE lS
     generalize bsOf []=QE at *
     go_wp2_with fail
     refine bodyPost_ret (by simp [results,Tryz.results22,go_sem,z0,z1,z2,z3,z4,z5,z6,z7];try rfl) rfl ?_
     exact ⟨rfl,by have:=PB.out;(repeat' first|(with_reducible first|assumption|apply bR|apply bA|apply bN|apply bD|apply bL|apply bS)|refine bT ?_ (by assumption)|go_size)⟩
    |cons v r=>
     cases r with
     |cons v2 r2=>
      have hx:XX=5:=by rw [HX.out];exact wpX_two 100000 eEE.symm
      have hv:VV=spV 0 [] 0 0:=by rw [HV.out];exact wpV_bad 100000 (by rw [←HX.out,hx];decide)
      have hsz:((bsOf (v::v2::r2)).size:Int)≠1:=by rw [bs_size];simp;omega
      have PB:=hid pw3.1
      subst hx hv
      clear eEE HX HV HEF eF eR HCN epr pw3 lE lS
      generalize bsOf (v::v2::r2)=QE at *
      go_wp2_with fail
      refine bodyPost_ret (by simp [results,Tryz.results22,go_sem,z0,z1,z2,z3,z4,z5,z6,z7];try rfl) rfl ?_
      exact ⟨rfl,by have:=PB.out;(repeat' first|(with_reducible first|assumption|apply bR|apply bA|apply bN|apply bD|apply bL|apply bS)|refine bT ?_ (by assumption)|go_size)⟩
     |nil=>
      have hsz:((bsOf [v]).size:Int)=1:=by rw [bs_size];rfl
      have hix: ∀w,(Instr.index 9 (.string (bsOf [v])) (.int .i64 0)).run Tryz.prog w=.ok (.int .u8 (v.toNat:Int)) w:=run_index (P:=Tryz.prog) Tryz.underlying9 [v] 0 v [] rfl
      have IB:=hid (fun w=>Tryz.strings_IndexByte ⟨#[101,102,103,97]⟩ (v.toNat:Int) w)
      obtain ⟨ib,hib⟩: ∃z,z=Lib.indexByte [101,102,103,97] ((v.toNat:Int).toNat.toUInt8):=⟨_,rfl⟩
      have hIB:Hid (∀w,Calls Tryz.prog 66 #[.string ⟨#[101,102,103,97]⟩,.int .u8 (v.toNat:Int)] w fun e w'=>e=.returned (.int .i64 ib)∧w=w'):=hid (fun w=>(IB.out w).mono (by rintro e w' ⟨rfl,rfl⟩;exact ⟨by rw [hib],rfl⟩))
      have hvb:=vb_index v
      rw [←hib] at hvb
      have hx1:=wpX_one 100000 eEE.symm
      rw [←HX.out] at hx1
      have hvl:=v.toNat_lt
      obtain ⟨x,hxv⟩: ∃x:Int,x=(v.toNat:Int):=⟨_,rfl⟩
      have wx9:IntKind.i64.wrap x=x:=IntWalk.i64_in _ (by omega)
      cases hb:isVb v
      ·rw [hb] at hvb hx1
       have hib0: ¬ib<0→False:=fun h=>by rw [decide_eq_false h] at hvb;cases hvb
       have hib1:ib<0:=by rcases Int.lt_or_le ib 0 with h|h;exact h;exact (hib0 (by omega)).elim
       have hx:XX=5:=hx1
       have hv:VV=spV 0 [] 0 0:=by rw [HV.out];exact wpV_bad 100000 (by rw [←HX.out,hx];decide)
       have PB:=hid pw3.1
       rw [←hxv] at hix hIB
       subst hx hv
       clear eEE HX HV HEF eF eR HCN epr pw3 lE lS IB hvb hib hib0 hx1 hb hxv hvl
       generalize bsOf [v]=QE at *
       go_wp2_with (go_at_call 66;(with_reducible refine (hIB.out _).mono ?_);rintro en w1 ⟨rfl,rfl⟩)
       refine bodyPost_ret (by simp [results,Tryz.results22,go_sem,z0,z1,z2,z3,z4,z5,z6,z7];try rfl) rfl ?_
       exact ⟨rfl,by have:=PB.out;(repeat' first|(with_reducible first|assumption|apply bR|apply bA|apply bN|apply bD|apply bL|apply bS)|refine bT ?_ (by assumption)|go_size)⟩
      ·rw [hb,if_pos rfl,eR,←epr] at hx1
       have hcc:(200<cpN 100000 RR)↔(200<cN):=by have:=HCN.out;omega
       simp only [hcc] at hx1
       rw [hb] at hvb
       have hib1: ¬ib<0:=fun h=>by rw [decide_eq_true h] at hvb;cases hvb
       obtain ⟨⟨k0,k1,k2,k3,k4,k5,k6,k7⟩,⟨q0,q1,q2,q3,q4,q5,q6,q7⟩⟩:=(show V8 W3 g5 #[.int .i64 0,.bool (F.contains 45),.bool (F.contains 43),.bool (F.contains 32),.bool (F.contains 48),.bool (F.contains 35),.int .i64 cN,.int .i64 pr] from pw3.2.2).cells
       have pw4:PW w (W3.setCell ⟨g5,0,none⟩ (.int .i64 x)) g2 g5 (spV x F cN pr):=pw3.set (by rfl) b5 ne 0 (by omega) (.int .i64 x)
       have HPW4:=hid pw4
       rw [←hxv] at hix hIB
       have hok:=fun (h:XX=0)=>wpV_ok 100000 (by rw [←HX.out];exact h) eEE.symm
       rw [eF,eR,←epr,←hxv,←HV.out,←HCN.out] at hok
       have hbad:=fun (h:XX≠0)=>wpV_bad (T:=T) 100000 (by rw [←HX.out];exact h)
       rw [←HV.out] at hbad
       have HOKV:=hid (And.intro hok hbad)
       have HX1:=hid hx1
       clear eEE HX HV HEF eF eR HCN epr pw3 pw4 lE lS IB hvb hib hb hxv hvl hok hbad hx1
       generalize bsOf [v]=QE at *
       go_upto_region 16 with (go_at_call 66;(with_reducible refine (hIB.out _).mono ?_);rintro en w1 ⟨rfl,rfl⟩)
       refine wp_worldW (fun WW=>PW w WW g2 g5 (spV x F cN pr)) HPW4.out ?_
       intro W4 pw5
       have PB:=hid pw5.1
       obtain ⟨⟨a0,a1,a2,a3,a4,a5,a6,a7⟩,-⟩:=pw5.2.1.cells
       obtain ⟨⟨e0,e1,e2,e3,e4,e5,e6,e7⟩,-⟩:=(show V8 W4 g5 #[.int .i64 x,.bool (F.contains 45),.bool (F.contains 43),.bool (F.contains 32),.bool (F.contains 48),.bool (F.contains 35),.int .i64 cN,.int .i64 pr] from pw5.2.2).cells
       obtain ⟨-,u0,u1,u2,u3,u4,u5,u6,u7⟩:True∧W4.frozen? ⟨g2,0,none⟩=false∧W4.frozen? ⟨g2,1,none⟩=false∧W4.frozen? ⟨g2,2,none⟩=false∧W4.frozen? ⟨g2,3,none⟩=false∧W4.frozen? ⟨g2,4,none⟩=false∧W4.frozen? ⟨g2,5,none⟩=false∧W4.frozen? ⟨g2,6,none⟩=false∧W4.frozen? ⟨g2,7,none⟩=false:=⟨trivial,(pw5.2.1 0 (by omega)).2,(pw5.2.1 1 (by omega)).2,(pw5.2.1 2 (by omega)).2,(pw5.2.1 3 (by omega)).2,(pw5.2.1 4 (by omega)).2,(pw5.2.1 5 (by omega)).2,(pw5.2.1 6 (by omega)).2,(pw5.2.1 7 (by omega)).2⟩
       clear HPW4 pw5 k0 k1 k2 k3 k4 k5 k6 k7 q0 q1 q2 q3 q4 q5 q6 q7 z0 z1 z2 z3 z4 z5 z6 z7 y0 y1 y2 y3 y4 y5 y6 y7 hix hIB hsz
       by_cases h1:200<cN
       ·have hx:XX=1:=by rw [HX1.out,if_pos (.inl h1)]
        have hv:VV=spV 0 [] 0 0:=HOKV.out.2 (by rw [hx];decide)
        subst hx hv
        clear HOKV HX1
        go_wp2_with fail
        refine bodyPost_ret (by simp [results,Tryz.results22,go_sem,a0,a1,a2,a3,a4,a5,a6,a7];try rfl) rfl ?_
        exact ⟨rfl,by have:=PB.out;(repeat' first|(with_reducible first|assumption|apply bR|apply bA|apply bN|apply bD|apply bL|apply bS)|refine bT ?_ (by assumption)|go_size)⟩
       ·by_cases h2:100<pr
        ·have hx:XX=1:=by rw [HX1.out,if_pos (.inr h2)]
         have hv:VV=spV 0 [] 0 0:=HOKV.out.2 (by rw [hx];decide)
         subst hx hv
         clear HOKV HX1
         go_wp2_with fail
         refine bodyPost_ret (by simp [results,Tryz.results22,go_sem,a0,a1,a2,a3,a4,a5,a6,a7];try rfl) rfl ?_
         exact ⟨rfl,by have:=PB.out;(repeat' first|(with_reducible first|assumption|apply bR|apply bA|apply bN|apply bD|apply bL|apply bS)|refine bT ?_ (by assumption)|go_size)⟩
        ·have hx:XX=0:=by rw [HX1.out,if_neg (fun h=>h.elim h1 h2)]
         have hv:VV=spV x F cN pr:=HOKV.out.1 hx
         subst hx hv
         clear HOKV HX1
         go_wp2_with fail
         refine bodyPost_ret (by simp [results,Tryz.results22,go_sem,a0,a1,a2,a3,a4,a5,a6,a7];try rfl) rfl ?_
         exact ⟨by simp [spV],by have:=PB.out;(repeat' first|(with_reducible first|assumption|apply bR|apply bA|apply bN|apply bD|apply bL|apply bS)|refine bT ?_ (by assumption)|go_size)⟩
end Go.Proofs.YtfphmlmgjhebjaaGreatDoor
namespace Go.Ulp
open Go.RowKit
def aheadB (c:UInt8) (L:List UInt8):List UInt8:=L.takeWhile (fun b=>b !=c)
def fromB (c:UInt8) (L:List UInt8):List UInt8:=L.dropWhile (fun b=>b !=c)
theorem ahead_from (c:UInt8) (L:List UInt8):aheadB c L++fromB c L=L:=List.takeWhile_append_dropWhile
theorem ahead_len (c:UInt8) (L:List UInt8):(aheadB c L).length≤L.length:=by have:=congrArg List.length (ahead_from c L);rw [List.length_append] at this;omega
theorem ib_spec (c:UInt8): ∀L:List UInt8,(L.contains c=true→Lib.indexByte L c=((aheadB c L).length:Int))∧(L.contains c=false→Lib.indexByte L c= -1∧aheadB c L=L)
 | []=>⟨fun h=>by simp at h,fun _=>⟨rfl,rfl⟩⟩
 |b::l=>by
  obtain ⟨i1,i2⟩:=ib_spec c l
  by_cases hb:b=c
  ·subst hb
   refine ⟨fun _=>?_,fun h=>by simp at h⟩
   unfold Lib.indexByte aheadB
   rw [if_pos (by simp),List.takeWhile_cons,if_neg (by simp)];rfl
  ·have hne:(b !=c)=true:=by simpa using hb
   have he:(b==c)=false:=beq_eq_false_iff_ne.2 hb
   have hc:(b::l).contains c=l.contains c:=by
    rw [List.contains_cons,show (c==b)=false from beq_eq_false_iff_ne.2 (fun h=>hb h.symm),Bool.false_or]
   rw [hc]
   constructor
   ·intro h
    have h1:=i1 h
    unfold Lib.indexByte
    rw [he,h1]
    unfold aheadB
    rw [List.takeWhile_cons,if_pos hne,List.length_cons]
    have h2:((((List.takeWhile (fun b=>b !=c) l).length:Nat):Int)== -1)=false:=by rw [beq_eq_false_iff_ne];omega
    simp [h2]
   ·intro h
    obtain ⟨h1,h2⟩:=i2 h
    refine ⟨?_,?_⟩
    ·unfold Lib.indexByte;rw [he,h1];rfl
    ·unfold aheadB at h2 ⊢;rw [List.takeWhile_cons,if_pos hne,h2]
theorem ib_has (c:UInt8) (L:List UInt8):decide (0≤Lib.indexByte L c)=L.contains c:=by
 obtain ⟨a,b⟩:=ib_spec c L
 cases h:L.contains c
 ·rw [(b h).1];rfl
 ·rw [a h];exact decide_eq_true (by omega)
theorem ib_cut (c:UInt8) (L:List UInt8):(if Lib.indexByte L c<0 then (L.length:Int) else Lib.indexByte L c)=((aheadB c L).length:Int):=by
 obtain ⟨a,b⟩:=ib_spec c L
 cases h:L.contains c
 ·rw [(b h).1,if_pos (by decide),(b h).2]
 ·rw [a h,if_neg (by omega)]
theorem take_ahead (c:UInt8) (L:List UInt8):L.take (aheadB c L).length=aheadB c L:=by
 have h:=List.take_left (l₁:=aheadB c L) (l₂:=fromB c L)
 rw [ahead_from] at h;exact h
theorem drop_ahead (c:UInt8) (L:List UInt8):L.drop (aheadB c L).length=fromB c L:=by
 have h:=List.drop_left (l₁:=aheadB c L) (l₂:=fromB c L)
 rw [ahead_from] at h;exact h
def wzM (M:List UInt8):List UInt8:=if M.contains 46=true then Lib.trimSuffix (Lib.trimRightB M 48) [46] else M
def wzT (L:List UInt8):List UInt8:=wzM (aheadB 101 L)++fromB 101 L
theorem trimR_len (M:List UInt8) (c:UInt8):(Lib.trimRightB M c).length≤M.length:=by
 unfold Lib.trimRightB
 rw [List.length_reverse]
 have h:=congrArg List.length (List.takeWhile_append_dropWhile (p:=(· ==c)) (l:=M.reverse))
 rw [List.length_append,List.length_reverse] at h
 omega
def sgW (x:Int) (plus blank:Bool):List UInt8:=if negB x=true∧classOf x≠5 then [45] else if plus=true then [43] else if blank=true then [32] else []
end Go.Ulp
namespace Go.Proofs.YtfphmlmgjhebjaaGreatDoor
open Go.RowKit Go.Ulp
set_option maxHeartbeats 4000000
set_option maxRecDepth 100000
theorem shortW_any (L:List UInt8) (w:World) (hl:L.length≤1000000):
 Calls Tryz.prog 186 #[.string (bsOf L)] w fun e w'=>e=.returned (.string (bsOf (wzT L)))∧w=w':=by
 have IB:=hid (fun w=>Tryz.strings_IndexByte (bsOf L) 101 w)
 rw [bs_list] at IB
 obtain ⟨ib,hib⟩: ∃z,z=Lib.indexByte L 101:=⟨_,rfl⟩
 have hIB:Hid (∀w,Calls Tryz.prog 66 #[.string (bsOf L),.int .u8 101] w fun e w'=>e=.returned (.int .i64 ib)∧w=w'):=hid (fun w=>(IB.out w).mono (by rintro e w' ⟨rfl,rfl⟩;exact ⟨by rw [hib];rfl,rfl⟩))
 have hcut:=ib_cut 101 L
 rw [←hib] at hcut
 obtain ⟨M,hM⟩: ∃M,M=aheadB 101 L:=⟨_,rfl⟩
 obtain ⟨T,hT⟩: ∃T,T=fromB 101 L:=⟨_,rfl⟩
 have lM:M.length≤L.length:=by rw [hM];exact ahead_len _ _
 rw [←hM] at hcut
 have hst:=slice_to (P:=Tryz.prog) Tryz.underlying9 L (M.length:Int) (by omega) (by omega)
 have hsf:=slice_from (P:=Tryz.prog) Tryz.underlying9 L (M.length:Int) (by omega) (by omega)
 rw [Int.toNat_natCast,hM,take_ahead,←hM] at hst
 rw [Int.toNat_natCast,hM,drop_ahead,←hM,←hT] at hsf
 have CT:=hid (fun w=>Tryz.strings_Contains_one (bsOf M) 46 w)
 have hCT:Hid (∀w,Calls Tryz.prog 74 #[.string (bsOf M),.string ⟨#[46]⟩] w fun e w'=>e=.returned (.bool (M.contains 46))∧w=w'):=hid (fun w=>(CT.out w).mono (by rintro e w' ⟨rfl,rfl⟩;exact ⟨by rw [bs_list,ib_has],rfl⟩))
 have TR:=hid (fun w=>Tryz.strings_TrimRight_one (bsOf M) 48 (by decide) w (by rw [bs_size];omega))
 rw [bs_list] at TR
 obtain ⟨R,hR⟩: ∃R,R=Lib.trimRightB M 48:=⟨_,rfl⟩
 have lR:R.length≤M.length:=by rw [hR];exact trimR_len _ _
 have hTR:Hid (∀w,Calls Tryz.prog 167 #[.string (bsOf M),.string ⟨#[48]⟩] w fun e w'=>e=.returned (.string (bsOf R))∧w=w'):=hid (fun w=>(TR.out w).mono (by rintro e w' ⟨rfl,rfl⟩;exact ⟨by rw [hR];rfl,rfl⟩))
 have TS:=hid (fun w=>Tryz.strings_TrimSuffix (bsOf R) ⟨#[46]⟩ w (by rw [bs_size];omega))
 rw [bs_list] at TS
 have hTS:Hid (∀w,Calls Tryz.prog 208 #[.string (bsOf R),.string ⟨#[46]⟩] w fun e w'=>e=.returned (.string (bsOf (Lib.trimSuffix R [46])))∧w=w'):=hid (fun w=>(TS.out w).mono (by rintro e w' ⟨rfl,rfl⟩;exact ⟨rfl,rfl⟩))
 have hsz:=bs_size L
 have hres:wzT L=(if M.contains 46=true then Lib.trimSuffix R [46] else M)++T:=by unfold wzT wzM;rw [←hM,←hT,←hR]
 have HRS:=hid hres
 obtain ⟨k,hk⟩: ∃k,k=M.contains 46:=⟨_,rfl⟩
 rw [←hk] at hCT HRS
 obtain ⟨n,hn⟩: ∃n:Int,n=(M.length:Int):=⟨_,rfl⟩
 rw [←hn] at hcut hst hsf
 have sM:(bsOf M).size≤1000000:=by rw [bs_size];omega
 have sT:(bsOf T).size≤1000000:=by
  rw [bs_size,hT];have:=congrArg List.length (ahead_from 101 L);rw [List.length_append] at this;omega
 have sR:(bsOf (Lib.trimSuffix R [46])).size≤1000000:=by
  rw [bs_size];unfold Lib.trimSuffix;split
  ·rw [List.length_take];omega
  ·omega
 have a1:=bs_app (Lib.trimSuffix R [46]) T
 have a2:=bs_app M T
 generalize Lib.trimSuffix R [46]=R2 at *
 obtain ⟨ln,hln⟩: ∃l:Int,l=(L.length:Int):=⟨_,rfl⟩
 rw [←hln] at hcut
 have hsz2:((bsOf L).size:Int)=ln:=by rw [hsz,hln]
 generalize hQ:bsOf L=Q at *
 clear IB CT TR TS hres hk hib hM hT hR lM lR hsz hln hn hQ
 cases k
 ·by_cases h0:ib<0
  ·rw [if_pos h0] at hcut
   subst hcut
   go_enter Tryz.func186,Tryz.ntmps186
   go_wp2_with (first
    |(go_at_call 66;(with_reducible refine (hIB.out _).mono ?_);rintro en w1 ⟨rfl,rfl⟩)
    |(go_at_call 74;(with_reducible refine (hCT.out _).mono ?_);rintro en w1 ⟨rfl,rfl⟩))
   go_ret
   exact ⟨by rw [HRS.out];first|rfl|(rw [a2];rfl),rfl⟩
  ·rw [if_neg h0] at hcut
   subst hcut
   go_enter Tryz.func186,Tryz.ntmps186
   go_wp2_with (first
    |(go_at_call 66;(with_reducible refine (hIB.out _).mono ?_);rintro en w1 ⟨rfl,rfl⟩)
    |(go_at_call 74;(with_reducible refine (hCT.out _).mono ?_);rintro en w1 ⟨rfl,rfl⟩))
   go_ret
   exact ⟨by rw [HRS.out];first|rfl|(rw [a2];rfl),rfl⟩
 ·by_cases h0:ib<0
  ·rw [if_pos h0] at hcut
   subst hcut
   go_enter Tryz.func186,Tryz.ntmps186
   go_wp2_with (first
    |(go_at_call 66;(with_reducible refine (hIB.out _).mono ?_);rintro en w1 ⟨rfl,rfl⟩)
    |(go_at_call 74;(with_reducible refine (hCT.out _).mono ?_);rintro en w1 ⟨rfl,rfl⟩)
    |(go_at_call 167;(with_reducible refine (hTR.out _).mono ?_);rintro en w1 ⟨rfl,rfl⟩)
    |(go_at_call 208;(with_reducible refine (hTS.out _).mono ?_);rintro en w1 ⟨rfl,rfl⟩))
   go_ret
   exact ⟨by rw [HRS.out];first|rfl|(rw [a1];rfl),rfl⟩
  ·rw [if_neg h0] at hcut
   subst hcut
   go_enter Tryz.func186,Tryz.ntmps186
   go_wp2_with (first
    |(go_at_call 66;(with_reducible refine (hIB.out _).mono ?_);rintro en w1 ⟨rfl,rfl⟩)
    |(go_at_call 74;(with_reducible refine (hCT.out _).mono ?_);rintro en w1 ⟨rfl,rfl⟩)
    |(go_at_call 167;(with_reducible refine (hTR.out _).mono ?_);rintro en w1 ⟨rfl,rfl⟩)
    |(go_at_call 208;(with_reducible refine (hTS.out _).mono ?_);rintro en w1 ⟨rfl,rfl⟩))
   go_ret
   exact ⟨by rw [HRS.out];first|rfl|(rw [a1];rfl),rfl⟩
end Go.Proofs.YtfphmlmgjhebjaaGreatDoor
