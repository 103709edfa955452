/- TopSum: what the proof leans on, part 18 (ShelfU Sy4 Sy1 Sy2). -/
import Derived.Shelf.Strings.Builder1
import Derived.Shelf.Strings.Builder2
import Derived.Shelf.Strings.OnBuilder
import Derived.Shelf.Strings.Trim
import Derived.Shelf.Small.Utf8
import Derived.Shelf.Small.Bits
import Derived.Shelf.Small.Strs
import Derived.Shelf.Small.Wraps
import Derived.Shelf.Strings.BuilderF
import Derived.Shelf.Strconv.Atoi
import Derived.Shelf.Strconv.Itoa0
import Derived.Shelf.Strconv.Itoa1
import Derived.Shelf.LaysM
import Derived.Shelf.Strconv.Itoa2
import Derived.Shelf.Strconv.Itoa3
import Derived.Ground.MpProg
import Derived.Shelf.Pu.ParseUintPublic10
import Derived.Shelf.Strings.Search1
import Derived.Shelf.Strings.Search2
import Derived.Shelf.Strings.Search3
import Derived.Shelf.Strings.Shaped
import Derived.Shelf.Strings.Prefix
import Derived.Shelf.Strings.Runes
import Derived.Shelf.Strings.AsciiSet
import Derived.Shelf.Bits.Mul64
import Derived.Shelf.Strings.Repeat
import Derived.Shelf.Unicode.DecodeSlow
import Derived.Ground.Names2Prog
import Derived.Shelf.Slices.ReverseS
import Derived.Shelf.Slices.SearchI
import Derived.Test.YtfphmlmgjhebjaaGreatDoorKTopSum5
import Derived.Test.YtfphmlmgjhebjaaGreatDoorKTopSum13
import Derived.Test.YtfphmlmgjhebjaaGreatDoorKTopSum14
import Derived.Test.YtfphmlmgjhebjaaGreatDoorKTopSum16
import Derived.Test.YtfphmlmgjhebjaaGreatDoorKTopSum17
set_option linter.unusedVariables false
set_option linter.unusedSimpArgs false
namespace Go.Proofs
open Go.Shelf
def Tryz.lays162_ren:Go.Shelf.Ren:=⟨fun|162=>167|232=>224|227=>216|234=>225|236=>226|228=>242|271=>244|151=>72|120=>258|197=>243|152=>134|260=>257|137=>66|119=>192|224=>193|225=>194|217=>123|266=>181|n=>n,fun|9=>9|4=>4|3=>3|5=>5|117=>239|116=>238|0=>0|124=>242|21=>21|105=>259|46=>62|119=>280|139=>283|138=>282|n=>n,fun|3=>4|4=>5|n=>n⟩
theorem Tryz.lays162:Go.Proofs.Lays.n162 Tryz.prog Tryz.lays162_ren:= {
 mixed:=by kernel_rfl
 f119:=Tryz.func192.trans (congrArg some (by kernel_rfl))
 f120:=Tryz.func258.trans (congrArg some (by kernel_rfl))
 f137:=Tryz.func66.trans (congrArg some (by kernel_rfl))
 f151:=Tryz.func72.trans (congrArg some (by kernel_rfl))
 f152:=Tryz.func134.trans (congrArg some (by kernel_rfl))
 f162:=Tryz.func167.trans (congrArg some (by kernel_rfl))
 f197:=Tryz.func243.trans (congrArg some (by kernel_rfl))
 f217:=Tryz.func123.trans (congrArg some (by kernel_rfl))
 f224:=Tryz.func193.trans (congrArg some (by kernel_rfl))
 f225:=Tryz.func194.trans (congrArg some (by kernel_rfl))
 f227:=Tryz.func216.trans (congrArg some (by kernel_rfl))
 f228:=Tryz.func242.trans (congrArg some (by kernel_rfl))
 f232:=Tryz.func224.trans (congrArg some (by kernel_rfl))
 f234:=Tryz.func225.trans (congrArg some (by kernel_rfl))
 f236:=Tryz.func226.trans (congrArg some (by kernel_rfl))
 f260:=Tryz.func257.trans (congrArg some (by kernel_rfl))
 f266:=Tryz.func181.trans (congrArg some (by kernel_rfl))
 f271:=Tryz.func244.trans (congrArg some (by kernel_rfl))
 t0:=Tryz.underlying0
 a0:=Tryz.isAgg0
 z0:=Tryz.sizeOf0
 v0:=Tryz.zeroValue0
 t3:=Tryz.underlying3
 a3:=Tryz.isAgg3
 z3:=Tryz.sizeOf3
 v3:=Tryz.zeroValue3
 t4:=Tryz.underlying4
 a4:=Tryz.isAgg4
 z4:=Tryz.sizeOf4
 v4:=Tryz.zeroValue4
 t5:=Tryz.underlying5
 a5:=Tryz.isAgg5
 z5:=Tryz.sizeOf5
 v5:=Tryz.zeroValue5
 t9:=Tryz.underlying9
 a9:=Tryz.isAgg9
 z9:=Tryz.sizeOf9
 v9:=Tryz.zeroValue9
 t21:=Tryz.underlying21
 a21:=Tryz.isAgg21
 z21:=Tryz.sizeOf21
 v21:=Tryz.zeroValue21
 t46:=Tryz.underlying62
 a46:=Tryz.isAgg62
 z46:=Tryz.sizeOf62
 v46:=Tryz.zeroValue62
 t105:=Tryz.underlying259
 a105:=Tryz.isAgg259
 z105:=Tryz.sizeOf259
 v105:=Tryz.zeroValue259
 t116:=Tryz.underlying238
 a116:=Tryz.isAgg238
 z116:=Tryz.sizeOf238
 t117:=Tryz.underlying239
 a117:=Tryz.isAgg239
 z117:=Tryz.sizeOf239
 v117:=Tryz.zeroValue239
 t119:=Tryz.underlying280
 a119:=Tryz.isAgg280
 z119:=Tryz.sizeOf280
 t124:=Tryz.underlying242
 a124:=Tryz.isAgg242
 z124:=Tryz.sizeOf242
 v124:=Tryz.zeroValue242
 t138:=Tryz.underlying282
 a138:=Tryz.isAgg282
 z138:=Tryz.sizeOf282
 v138:=Tryz.zeroValue282
 t139:=Tryz.underlying283
 a139:=Tryz.isAgg283
 z139:=Tryz.sizeOf283
 v139:=Tryz.zeroValue283
 g3:=by kernel_rfl
 g4:=by kernel_rfl}
open Go.RowKit in
theorem Tryz.strings_TrimRight_one (s:ByteArray) (c:UInt8) (hc:c.toNat<128) (w:World) (hs:s.size≤9223372036854775807):
 Calls Tryz.prog 167 #[.string s,.string ⟨#[c]⟩] w fun e w'=>e=.returned (.string ⟨(Lib.trimRightB s.data.toList c).toArray⟩)∧w'=w:=Any.strings_TrimRight_one Tryz.lays162 s c hc w hs
end Go.Proofs
namespace Go.Proofs.YtfphmlmgjhebjaaGreatDoor
open Go.RowKit Go.Ulp
set_option maxHeartbeats 2000000
set_option maxRecDepth 100000
theorem shCmp_any (n m:Nat) (k x:Int) (an am:Option Addr) (cn cm:Nat) (w:World) (h0:Ns .u32 w an cn (limbs n)) (h1:Ns .u32 w am cm (limbs m)) (ln:(limbs n).length≤10000) (lm:(limbs m).length≤10000) (hk: -10000≤k∧k≤10000) (hx: -20000≤x∧x≤20000):
 Calls Tryz.prog 165 #[.slice an (limbs n).length cn,.int .i64 k,.slice am (limbs m).length cm,.int .i64 x] w fun e w'=>e=.returned (.int .i64 (cmpT n k m x))∧Below w.heap.size w w':=by
 obtain ⟨K,hK⟩: ∃K:Nat,K=k.toNat:=⟨_,rfl⟩
 obtain ⟨J,hJ⟩: ∃K:Nat,K=(-k).toNat:=⟨_,rfl⟩
 obtain ⟨X,hX⟩: ∃K:Nat,K=x.toNat:=⟨_,rfl⟩
 obtain ⟨Y,hY⟩: ∃K:Nat,K=(-x).toNat:=⟨_,rfl⟩
 have m1:max k 0=(K:Int):=by omega
 have m2:max (-k) 0=(J:Int):=by omega
 have m3:max x 0=(X:Int):=by omega
 have m4:max (-x) 0=(Y:Int):=by omega
 have w1:IntKind.i64.wrap (-k)= -k:=IntWalk.i64_in _ (by omega)
 have w2:IntKind.i64.wrap (-x)= -x:=IntWalk.i64_in _ (by omega)
 have E:=hid (show cmpT n k m x=cmpI ((n*10^K*2^Y:Nat):Int) ((m*2^X*10^J:Nat):Int) by unfold cmpT;rw [hK,hJ,hX,hY])
 have lK:=limbs_ten K (by omega)
 have lJ:=limbs_ten J (by omega)
 have lA:=limbs_len_mul n (10^K) 10000 3002 ln lK
 have P1:=hid (fun w=>pow10_any K (by omega) w)
 have P2:=hid (fun w=>pow10_any J (by omega) w)
 have T1:=hid (fun b d w h0 h1=>times_any an b cn d n (10^K) w h0 h1 (by omega) (by omega))
 have L1:=hid (fun b d w h0=>leftN_any b d (n*10^K) Y w h0 (by omega) (by omega))
 have L2:=hid (fun w h0=>leftN_any am cm m X w h0 (by omega) (by omega))
 have lB:(limbs (m*2^X)).length≤40000:=limbs_len_mul m (2^X) 10000 30000 lm (limbs_short2 (X+1) 30000 (by omega) _ (Nat.pow_lt_pow_right (by omega) (by omega)))
 have T2:=hid (fun a b c d w h0 h1=>times_any a b c d (m*2^X) (10^J) w h0 h1 (by omega) (by omega))
 have CM:=hid (fun a b c d w h0 h1=>compare_any a b c d (n*10^K*2^Y) (m*2^X*10^J) w h0 h1)
 have H0:=hid h0
 have H1:=hid h1
 rw [E.out]
 generalize cmpI ((n*10^K*2^Y:Nat):Int) ((m*2^X*10^J:Nat):Int)=C at *
 clear h0 h1 lK lJ lA lB hK hJ hX hY E
 go_enter Tryz.func165,Tryz.ntmps165
 go_upto_region 2 with (first
  |(go_at_call 159;(with_reducible refine (P1.out _).mono ?_);rintro en w1 ⟨b1,d1,rfl,n1,y1⟩)
  |(go_at_call 157;(with_reducible refine (T1.out _ _ _ (H0.out.below y1) n1).mono ?_);rintro en w2 ⟨b2,rfl,n2,y2⟩)
  |(go_at_call 172;(with_reducible refine (L1.out _ _ _ n2).mono ?_);rintro en w3 ⟨b3,rfl,n3,y3⟩))
 have yb3:=below_trans (below_trans y1 y2) y3
 go_upto_region 3 with (first
  |(go_at_call 172;(with_reducible refine (L2.out _ (H1.out.below yb3)).mono ?_);rintro en w4 ⟨b4,rfl,n4,y4⟩)
  |(go_at_call 159;(with_reducible refine (P2.out _).mono ?_);rintro en w5 ⟨b5,d5,rfl,n5,y5⟩)
  |(go_at_call 157;(with_reducible refine (T2.out _ _ _ _ _ (n4.below y5) n5).mono ?_);rintro en w6 ⟨b6,rfl,n6,y6⟩))
 have n7:=((n3.below y4).below y5).below y6
 have yb6:=below_trans (below_trans (below_trans yb3 y4) y5) y6
 go_wp2_with (go_at_call 210;(with_reducible refine (CM.out _ _ _ _ _ n7 n6).mono ?_);rintro en w7 ⟨rfl,nq,rfl⟩)
 go_ret
 exact ⟨rfl,below_drewN yb6 _⟩
end Go.Proofs.YtfphmlmgjhebjaaGreatDoor
namespace Go.Ulp
open Go.RowKit
def B5 (t:TypeId) (w:World) (g:Nat) (v0 v1 v2 v3 v4:Value):Prop:=
 w.cell? ⟨g,0,none⟩=some v0∧w.cell? ⟨g,1,none⟩=some v1∧w.cell? ⟨g,2,none⟩=some v2∧w.cell? ⟨g,3,none⟩=some v3∧w.cell? ⟨g,4,none⟩=some v4∧
  w.frozen? ⟨g,0,none⟩=false∧w.frozen? ⟨g,1,none⟩=false∧w.frozen? ⟨g,2,none⟩=false∧w.frozen? ⟨g,3,none⟩=false∧w.frozen? ⟨g,4,none⟩=false∧ElemIs w g t
theorem B5.lt {t:TypeId} {w:World} {g:Nat} {v0 v1 v2 v3 v4:Value} (h:B5 t w g v0 v1 v2 v3 v4):g<w.heap.size:=h.2.2.2.2.2.2.2.2.2.2.lt
theorem B5.below {t:TypeId} {w w':World} {g:Nat} {v0 v1 v2 v3 v4:Value} (h:B5 t w g v0 v1 v2 v3 v4) (hb:Below w.heap.size w w'):B5 t w' g v0 v1 v2 v3 v4:=by
 have hB:=h.lt
 obtain ⟨h0,h1,h2,h3,h4,f0,f1,f2,f3,f4,he⟩:=h
 exact ⟨(hb.cell (p:=⟨g,0,none⟩) hB).trans h0,(hb.cell (p:=⟨g,1,none⟩) hB).trans h1,(hb.cell (p:=⟨g,2,none⟩) hB).trans h2,(hb.cell (p:=⟨g,3,none⟩) hB).trans h3,(hb.cell (p:=⟨g,4,none⟩) hB).trans h4,
  (hb.frozen (p:=⟨g,0,none⟩) hB).trans f0,(hb.frozen (p:=⟨g,1,none⟩) hB).trans f1,(hb.frozen (p:=⟨g,2,none⟩) hB).trans f2,(hb.frozen (p:=⟨g,3,none⟩) hB).trans f3,(hb.frozen (p:=⟨g,4,none⟩) hB).trans f4,he.belowB hb hB⟩
theorem B5.made {t:TypeId} {w:World} {g:Nat} {v0 v1 v2 v3 v4:Value} (hg:g=w.heap.size):B5 t (w.alloc (.cells #[v0,v1,v2,v3,v4] t)) g v0 v1 v2 v3 v4:=by
 subst hg
 refine ⟨?_,?_,?_,?_,?_,?_,?_,?_,?_,?_,ElemIs.made _ _ _⟩
 all_goals first
  |(rw [World.cell?_alloc_at (hn:=rfl)];rfl)
  |(unfold World.frozen?;rw [heap_alloc_new];simp)
theorem B5.set1 {t:TypeId} {w:World} {g:Nat} {v0 v1 v2 v3 v4:Value} (h:B5 t w g v0 v1 v2 v3 v4) (u:Value):B5 t (w.setCell ⟨g,1,none⟩ u) g v0 u v2 v3 v4:=by
 obtain ⟨h0,h1,h2,h3,h4,f0,f1,f2,f3,f4,he⟩:=h
 exact ⟨(cell_set_ne (by omega)).trans h0,World.cell?_setCell_same _ _ _ h1,(cell_set_ne (by omega)).trans h2,(cell_set_ne (by omega)).trans h3,(cell_set_ne (by omega)).trans h4,
  (frozen_setCell _ _ _ _).trans f0,(frozen_setCell _ _ _ _).trans f1,(frozen_setCell _ _ _ _).trans f2,(frozen_setCell _ _ _ _).trans f3,(frozen_setCell _ _ _ _).trans f4,he.setCell _ _⟩
theorem B5.far {t:TypeId} {w:World} {g:Nat} {v0 v1 v2 v3 v4:Value} (h:B5 t w g v0 v1 v2 v3 v4) (a:Addr) (u:Value) (hne:g≠a.block):B5 t (w.setCell a u) g v0 v1 v2 v3 v4:=by
 obtain ⟨h0,h1,h2,h3,h4,f0,f1,f2,f3,f4,he⟩:=h
 have c: ∀o v,w.cell? ⟨g,o,none⟩=some v→(w.setCell a u).cell? ⟨g,o,none⟩=some v:=fun o v hv=>by
  rw [World.cell?_setCell_other (h:=fun e=>hne (by rw [e]))];exact hv
 exact ⟨c _ _ h0,c _ _ h1,c _ _ h2,c _ _ h3,c _ _ h4,(frozen_setCell _ _ _ _).trans f0,(frozen_setCell _ _ _ _).trans f1,(frozen_setCell _ _ _ _).trans f2,(frozen_setCell _ _ _ _).trans f3,(frozen_setCell _ _ _ _).trans f4,he.setCell _ _⟩
theorem Ns.put5 {t:TypeId} {w:World} {g:Nat} {v0 v1 v2 v3 v4:Value} {ao:Option Addr} {cap:Nat} {L:List Nat} (h:Ns .u32 w ao cap L) (z:B5 t w g v0 v1 v2 v3 v4)
 (k0: ∀x,v0≠ .int .u32 x) (k1: ∀x,v1≠ .int .u32 x) (k2: ∀x,v2≠ .int .u32 x) (k3: ∀x,v3≠ .int .u32 x) (k4: ∀x,v4≠ .int .u32 x) (u0 u1 u2 u3 u4:Value):
 Ns .u32 (((((w.setCell ⟨g,0,none⟩ u0).setCell ⟨g,1,none⟩ u1).setCell ⟨g,2,none⟩ u2).setCell ⟨g,3,none⟩ u3).setCell ⟨g,4,none⟩ u4) ao cap L:=by
 obtain ⟨h0,h1,h2,h3,h4,-⟩:=z
 have a0:=Ns.setCell_kind h ⟨g,0,none⟩ u0 v0 h0 k0
 have a1:=Ns.setCell_kind a0 ⟨g,1,none⟩ u1 v1 ((cell_set_ne (by omega)).trans h1) k1
 have a2:=Ns.setCell_kind a1 ⟨g,2,none⟩ u2 v2 ((cell_set_ne (by omega)).trans ((cell_set_ne (by omega)).trans h2)) k2
 have a3:=Ns.setCell_kind a2 ⟨g,3,none⟩ u3 v3 ((cell_set_ne (by omega)).trans ((cell_set_ne (by omega)).trans ((cell_set_ne (by omega)).trans h3))) k3
 exact Ns.setCell_kind a3 ⟨g,4,none⟩ u4 v4 ((cell_set_ne (by omega)).trans ((cell_set_ne (by omega)).trans ((cell_set_ne (by omega)).trans ((cell_set_ne (by omega)).trans h4)))) k4
theorem Ns.put1 {t:TypeId} {w:World} {g:Nat} {v0 v1 v2 v3 v4:Value} {ao:Option Addr} {cap:Nat} {L:List Nat} (h:Ns .u32 w ao cap L) (z:B5 t w g v0 v1 v2 v3 v4) (k1: ∀x,v1≠ .int .u32 x) (u1:Value):Ns .u32 (w.setCell ⟨g,1,none⟩ u1) ao cap L:=
 Ns.setCell_kind h ⟨g,1,none⟩ u1 v1 z.2.1 k1
theorem below_put5 {B:Nat} {w w':World} (h:Below B w w') {g:Nat} (hg:B≤g) (u0 u1 u2 u3 u4:Value):Below B w (((((w'.setCell ⟨g,0,none⟩ u0).setCell ⟨g,1,none⟩ u1).setCell ⟨g,2,none⟩ u2).setCell ⟨g,3,none⟩ u3).setCell ⟨g,4,none⟩ u4):=
 ((((h.setCell (p:=⟨g,0,none⟩) hg _).setCell (p:=⟨g,1,none⟩) hg _).setCell (p:=⟨g,2,none⟩) hg _).setCell (p:=⟨g,3,none⟩) hg _).setCell (p:=⟨g,4,none⟩) hg _
def VB (w:World) (m lo hi:Nat) (x:Int) (ev:Bool) (v:Value):Prop:=
 ∃a b c d e f,v=.agg #[.slice a (limbs m).length d,.slice b (limbs lo).length e,.slice c (limbs hi).length f,.int .i64 x,.bool ev]∧Ns .u32 w a d (limbs m)∧Ns .u32 w b e (limbs lo)∧Ns .u32 w c f (limbs hi)
theorem VB.below {w w':World} {m lo hi:Nat} {x:Int} {ev:Bool} {v:Value} (h:VB w m lo hi x ev v) (hb:Below w.heap.size w w'):VB w' m lo hi x ev v:=by
 obtain ⟨a,b,c,d,e,f,h1,h2,h3,h4⟩:=h;exact ⟨a,b,c,d,e,f,h1,h2.below hb,h3.below hb,h4.below hb⟩
def RetVB (w:World) (m lo hi:Nat) (x:Int) (ev:Bool) (e:Ending) (w':World):Prop:= ∃v,e=.returned v∧VB w' m lo hi x ev v∧Below w.heap.size w w'
theorem ns_no {a:Option Addr} {n c:Nat}: ∀x,Value.slice a n c≠ .int .u32 x:=by intro x h;cases h
end Go.Ulp
namespace Go.Proofs.YtfphmlmgjhebjaaGreatDoor
open Go.RowKit Go.Ulp
set_option maxHeartbeats 2000000
set_option maxRecDepth 100000
theorem limits_any (x:Int) (h0:0≤x) (h1:x<18446744073709551616) (E f:Nat) (hE:expOf x=(E:Int)) (hf:fracOf x=(f:Int)) (hm:1≤lmM E f) (w:World):
 Calls Tryz.prog 160 #[.int .u64 x] w (RetVB w (4*lmM E f) (lmL E f) (4*lmM E f+2) (lmX E) (decide (f%2=0))):=by
 have PA:=hid (fun w=>parts_any x h0 h1 w)
 have heb:=expOf_bd x
 have hfb:=fracOf_bd x
 rw [hE] at PA heb
 rw [hf] at PA hfb
 obtain ⟨M,hM⟩: ∃M,M=lmM E f:=⟨_,rfl⟩
 have hMd:M=if E=0 then f else f+4503599627370496:=hM
 have hMb:M<9007199254740992:=by rw [hMd];split<;>omega
 have hMv:E=0→f=M:=fun h=>by rw [hMd,if_pos h]
 have hMw:E≠0→(f:Int)+4503599627370496=(M:Int):=fun h=>by rw [hMd,if_neg h];omega
 have hor:=or_hidden (f:Int) (by omega) (by omega)
 obtain ⟨lo,hlo⟩: ∃lo,lo=lmL E f:=⟨_,rfl⟩
 have hlo2:lo=if f=0∧1<E then 4*M-1 else 4*M-2:=by rw [hlo,hM];rfl
 rw [←hM] at hm ⊢
 rw [←hlo]
 have hxx:lmX E=max (E:Int) 1-1075-2:=by unfold lmX lmH;omega
 obtain ⟨X,hX⟩: ∃X,X=lmX E:=⟨_,rfl⟩
 rw [←hX] at hxx ⊢
 have HX:=hid (show max (E:Int) 1-1075-2=X from hxx.symm)
 obtain ⟨Y,hY⟩: ∃Y,Y=max (E:Int) 1-1075:=⟨_,rfl⟩
 have HY:=hid hY
 have HYX:=hid (show Y-2=X by omega)
 have wY:IntKind.i64.wrap (max (E:Int) 1-1075)=Y:=by rw [IntWalk.i64_in _ (by omega)];omega
 have wX:IntKind.i64.wrap (Y-2)=X:=by rw [IntWalk.i64_in _ (by omega)];omega
 obtain ⟨ev,hev⟩: ∃b,b=decide (f%2=0):=⟨_,rfl⟩
 have HEV:=hid (show ((f:Int)%2==0)=ev by rw [hev,Bool.eq_iff_iff,beq_iff_eq,decide_eq_true_eq];omega)
 rw [←hev]
 have OA:=hid (show ∀w,Calls Tryz.prog 95 #[.int .u64 (4*(M:Int))] w (RetN w (4*M)) from fun w=>by
  have:=natOf_any (4*M) (by omega) w;rw [Int.natCast_mul] at this;exact this)
 have OB:=hid (show ∀w,Calls Tryz.prog 95 #[.int .u64 (4*(M:Int)-2)] w (RetN w (4*M-2)) from fun w=>by
  have:=natOf_any (4*M-2) (by omega) w;rw [show ((4*M-2:Nat):Int)=4*(M:Int)-2 by omega] at this;exact this)
 have OC:=hid (show ∀w,Calls Tryz.prog 95 #[.int .u64 (4*(M:Int)+2)] w (RetN w (4*M+2)) from fun w=>by
  have:=natOf_any (4*M+2) (by omega) w;rw [show ((4*M+2:Nat):Int)=4*(M:Int)+2 by omega] at this;exact this)
 have OD:=hid (show ∀w,Calls Tryz.prog 95 #[.int .u64 (4*(M:Int)-1)] w (RetN w (4*M-1)) from fun w=>by
  have:=natOf_any (4*M-1) (by omega) w;rw [show ((4*M-1:Nat):Int)=4*(M:Int)-1 by omega] at this;exact this)
 have zR:=B5.made (t:=191) (w:=w) (v0:=.slice none 0 0) (v1:=.slice none 0 0) (v2:=.slice none 0 0) (v3:=.int .i64 0) (v4:=.bool false) rfl
 have yb0:=below_alloc w (.cells #[.slice none 0 0,.slice none 0 0,.slice none 0 0,.int .i64 0,.bool false] 191)
 clear hM hMd hlo hX hY hxx hev hE hf
 go_enter Tryz.func160,Tryz.ntmps160
 go_upto_region 3 with (go_at_call 87;(with_reducible refine (PA.out _).mono ?_);rintro en w1 ⟨rfl,rfl⟩)
 refine wp_worldZ (fun WW=>Below w.heap.size w WW∧B5 191 WW w.heap.size (.slice none 0 0) (.slice none 0 0) (.slice none 0 0) (.int .i64 0) (.bool false)) ⟨yb0,zR⟩ ?_
 intro W0 ⟨y0,zR0⟩
 obtain ⟨g2,hg2⟩: ∃g,g=w.heap.size:=⟨_,rfl⟩
 have hgl:w.heap.size≤g2:=by omega
 rw [←hg2] at zR0
 rw [←hg2]
 clear hg2 yb0 zR
 go_upto_if 20 with fail
 go_cut [6] (fun s6 wx=>s6=.int .u64 (M:Int)∧wx=W0)
 case first=>as_aux_lemma=>
  by_cases hE0:E=0
  ·subst hE0
   have hfM:=hMv rfl
   have HM:=hid (show (f:Int)=(M:Int) by omega)
   clear hMv hMw hfM
   go_wp2_with fail
   go_meet
   exact ⟨by rw [HM.out],rfl⟩
  ·have hg:0<(E:Int):=by omega
   have hM9:=hMw hE0
   clear hMv hMw
   go_wp2_with fail
   go_meet
   exact ⟨rfl,rfl⟩
 case rest=>
  obtain ⟨rfl,rfl⟩:=hcut
  clear hMv hMw hor PA
  have u1:IntKind.u64.wrap (4*(M:Int))=4*(M:Int):=by rw [IntKind.wrap_u64];omega
  have u2:IntKind.u64.wrap (4*(M:Int)-2)=4*(M:Int)-2:=by rw [IntKind.wrap_u64];omega
  have u3:IntKind.u64.wrap (4*(M:Int)+2)=4*(M:Int)+2:=by rw [IntKind.wrap_u64];omega
  have u4:IntKind.u64.wrap (4*(M:Int)-1)=4*(M:Int)-1:=by rw [IntKind.wrap_u64];omega
  have HEV2:((f:Int)%2==0)=ev:=HEV.out
  go_upto_region 6 with (first
   |(go_at_call 95;(with_reducible refine (OA.out _).mono ?_);rintro en w1 ⟨a1,rfl,n1,y1⟩)
   |(go_at_call 95;(with_reducible refine (OB.out _).mono ?_);rintro en w2 ⟨a2,rfl,n2,y2⟩)
   |(go_at_call 95;(with_reducible refine (OC.out _).mono ?_);rintro en w3 ⟨a3,rfl,n3,y3⟩))
  have yb3:=below_trans (below_trans (below_trans y0 y1) y2) y3
  have zR3:=((zR0.below y1).below y2).below y3
  have m1:=(n1.below y2).below y3
  have m2:=n2.below y3
  refine wp_worldZ (fun WW=>Below w.heap.size w WW∧B5 191 WW g2 (.slice none 0 0) (.slice none 0 0) (.slice none 0 0) (.int .i64 0) (.bool false)∧B5 191 WW w3.heap.size (.slice a1 (limbs (4*M)).length (limbs (4*M)).length) (.slice a2 (limbs (4*M-2)).length (limbs (4*M-2)).length) (.slice a3 (limbs (4*M+2)).length (limbs (4*M+2)).length) (.int .i64 X) (.bool ev)∧
   Ns .u32 WW a1 (limbs (4*M)).length (limbs (4*M))∧Ns .u32 WW a2 (limbs (4*M-2)).length (limbs (4*M-2))∧Ns .u32 WW a3 (limbs (4*M+2)).length (limbs (4*M+2))) ⟨below_trans yb3 (below_alloc _ _),zR3.below (below_alloc _ _),B5.made rfl,m1.below (below_alloc _ _),m2.below (below_alloc _ _),n3.below (below_alloc _ _)⟩ ?_
  intro W4 ⟨yb4,zR4,zB4,p1,p2,p3⟩
  obtain ⟨g8,hg8⟩: ∃g,g=w3.heap.size:=⟨_,rfl⟩
  have hg28:g2≠g8:=by have:=zR3.lt;omega
  have hg8l:w.heap.size≤g8:=by have:=yb3.size;omega
  rw [←hg8] at zB4
  rw [←hg8]
  clear hg8 n1 n2 n3 m1 m2 zR3 yb3 y1 y2 y3 y0 zR0 OA OB OC
  by_cases hsp:f=0∧1<E
  ·have hl:4*M-1=lo:=by rw [hlo2,if_pos hsp]
   rw [hl] at OD
   obtain ⟨hf0,hE1⟩:=hsp
   subst hf0
   have hE2:(1:Int)<(E:Int):=by omega
   clear hlo2 hl
   obtain ⟨i0,i1,i2,i3,i4,if0,if1,if2,if3,if4,ie⟩:=id zB4
   go_wp2_with (go_at_call 95;(with_reducible refine (OD.out _).mono ?_);rintro en w5 ⟨a5,rfl,n5,y5⟩;obtain ⟨k0,k1,k2,k3,k4,kf0,kf1,kf2,kf3,kf4,ke⟩:=zB4.below y5;obtain ⟨m0,m1,m2,m3,m4,mf0,mf1,mf2,mf3,mf4,me⟩:=zR4.below y5)
   have zB5:=zB4.below y5
   have zR5:=(zR4.below y5).far ⟨g8,1,none⟩ (.slice a5 (limbs lo).length (limbs lo).length) hg28
   obtain ⟨q0,q1,q2,q3,q4,-⟩:=id zR5
   clear m0 m1 m2 m3 m4 k0 k1 k2 k3 k4
   refine bodyPost_ret (by simp [results,Tryz.results160,go_sem,q0,q1,q2,q3,q4];try rfl) rfl ?_
   exact ⟨_,rfl,⟨_,_,_,_,_,_,rfl,((p1.below y5).put1 zB5 ns_no _).put5 zR5 ns_no ns_no ns_no (by intro x h;cases h) (by intro x h;cases h) _ _ _ _ _,(n5.put1 zB5 ns_no _).put5 zR5 ns_no ns_no ns_no (by intro x h;cases h) (by intro x h;cases h) _ _ _ _ _,((p3.below y5).put1 zB5 ns_no _).put5 zR5 ns_no ns_no ns_no (by intro x h;cases h) (by intro x h;cases h) _ _ _ _ _⟩,
    below_put5 ((below_trans yb4 y5).setCell (p:=⟨g8,1,none⟩) hg8l _) hgl _ _ _ _ _⟩
  ·have hl:4*M-2=lo:=by rw [hlo2,if_neg hsp]
   rw [hl] at zB4 p2
   rw [hl]
   clear hlo2 hl OD
   obtain ⟨i0,i1,i2,i3,i4,if0,if1,if2,if3,if4,ie⟩:=id zB4
   obtain ⟨m0,m1,m2,m3,m4,mf0,mf1,mf2,mf3,mf4,me⟩:=id zR4
   by_cases hf0:f=0
   ·subst hf0
    have hE2: ¬(1:Int)<(E:Int):=by
     intro h;exact hsp ⟨rfl,by omega⟩
    clear hsp
    go_wp2_with fail
    refine bodyPost_ret (by simp [results,Tryz.results160,go_sem,m0,m1,m2,m3,m4];try rfl) rfl ?_
    exact ⟨_,rfl,⟨_,_,_,_,_,_,rfl,p1.put5 zR4 ns_no ns_no ns_no (by intro x h;cases h) (by intro x h;cases h) _ _ _ _ _,p2.put5 zR4 ns_no ns_no ns_no (by intro x h;cases h) (by intro x h;cases h) _ _ _ _ _,p3.put5 zR4 ns_no ns_no ns_no (by intro x h;cases h) (by intro x h;cases h) _ _ _ _ _⟩,below_put5 yb4 hgl _ _ _ _ _⟩
   ·have hf1:((f:Int)==0)=false:=beq_eq_false_iff_ne.2 (by omega)
    clear hsp hf0
    go_wp2_with fail
    refine bodyPost_ret (by simp [results,Tryz.results160,go_sem,m0,m1,m2,m3,m4];try rfl) rfl ?_
    exact ⟨_,rfl,⟨_,_,_,_,_,_,rfl,p1.put5 zR4 ns_no ns_no ns_no (by intro x h;cases h) (by intro x h;cases h) _ _ _ _ _,p2.put5 zR4 ns_no ns_no ns_no (by intro x h;cases h) (by intro x h;cases h) _ _ _ _ _,p3.put5 zR4 ns_no ns_no ns_no (by intro x h;cases h) (by intro x h;cases h) _ _ _ _ _⟩,below_put5 yb4 hgl _ _ _ _ _⟩
theorem fits_any (v:Value) (n m E f:Nat) (ev:Bool) (k:Int) (an:Option Addr) (cn:Nat) (w:World) (hv:VB w m (lmL E f) (4*lmM E f+2) (lmX E) (decide (f%2=0)) v) (hn:Ns .u32 w an cn (limbs n)) (ln:(limbs n).length≤10000) (hE:E<2047) (hf:f<4503599627370496) (hk: -10000≤k∧k≤10000):
 Calls Tryz.prog 164 #[v,.slice an (limbs n).length cn,.int .i64 k] w fun e w'=>e=.returned (.bool (fitP E f n k))∧Below w.heap.size w w':=by
 obtain ⟨a,b,c,d,e,g,rfl,-,hl,hh⟩:=hv
 have hM:lmM E f<9007199254740992:=by unfold lmM;split<;>omega
 have lL:(limbs (lmL E f)).length≤10000:=by
  have h9:lmL E f<2^64:=by unfold lmL;split<;>omega
  exact Nat.le_trans (limbs_short2 64 3 (by omega) _ h9) (by omega)
 have lH:(limbs (4*lmM E f+2)).length≤10000:=by
  have h9:4*lmM E f+2<2^64:=by omega
  exact Nat.le_trans (limbs_short2 64 3 (by omega) _ h9) (by omega)
 have hxb: -20000≤lmX E∧lmX E≤20000:=by unfold lmX lmH;omega
 obtain ⟨c1,hc1⟩: ∃z,z=cmpT n k (lmL E f) (lmX E):=⟨_,rfl⟩
 obtain ⟨c2,hc2⟩: ∃z,z=cmpT n k (4*lmM E f+2) (lmX E):=⟨_,rfl⟩
 obtain ⟨ev,hev⟩: ∃z,z=decide (f%2=0):=⟨_,rfl⟩
 have HF:=hid (show fitP E f n k=((decide (0<c1)&&decide (c2<0))||(ev&&(decide (c1=0)||decide (c2=0)))) by rw [hc1,hc2,hev];rfl)
 obtain ⟨F,hF⟩: ∃F,F=fitP E f n k:=⟨_,rfl⟩
 have HFF:=hid (show F=((decide (0<c1)&&decide (c2<0))||(ev&&(decide (c1=0)||decide (c2=0)))) by rw [hF];exact HF.out)
 rw [←hF]
 clear hF
 rw [←hev]
 obtain ⟨x,hx⟩: ∃x,x=lmX E:=⟨_,rfl⟩
 rw [←hx] at hxb
 have S1:=hid (fun w h0 h1=>by
  have h9:=shCmp_any n (lmL E f) k x an b cn e w h0 h1 ln lL hk hxb
  rwa [hx,←hc1,←hx] at h9)
 have S2:=hid (fun w h0 h1=>by
  have h9:=shCmp_any n (4*lmM E f+2) k x an c cn g w h0 h1 ln lH hk hxb
  rwa [hx,←hc2,←hx] at h9)
 rw [←hx]
 have y0:=below_alloc w (.cells #[.slice a (limbs m).length d,.slice b (limbs (lmL E f)).length e,.slice c (limbs (4*lmM E f+2)).length g,.int .i64 x,.bool ev] 191)
 have zB:=B5.made (t:=191) (w:=w) (v0:=.slice a (limbs m).length d) (v1:=.slice b (limbs (lmL E f)).length e) (v2:=.slice c (limbs (4*lmM E f+2)).length g) (v3:=.int .i64 x) (v4:=.bool ev) rfl
 have hn':=hn.below y0
 have hl':=hl.below y0
 have hh':=hh.below y0
 clear hc1 hc2 hev hx hn hl hh HF hM lL lH
 go_enter Tryz.func164,Tryz.ntmps164
 go_upto_region 1 with fail
 refine wp_worldZ (fun WW=>Below w.heap.size w WW∧B5 191 WW w.heap.size (.slice a (limbs m).length d) (.slice b (limbs (lmL E f)).length e) (.slice c (limbs (4*lmM E f+2)).length g) (.int .i64 x) (.bool ev)∧Ns .u32 WW an cn (limbs n)∧Ns .u32 WW b e (limbs (lmL E f))∧Ns .u32 WW c g (limbs (4*lmM E f+2))) ⟨y0,zB,hn',hl',hh'⟩ ?_
 intro W1 ⟨y1,zB1,n1,l1,h1⟩
 obtain ⟨g3,hg3⟩: ∃g,g=w.heap.size:=⟨_,rfl⟩
 rw [←hg3] at zB1 ⊢
 clear hg3 zB y0 hn' hl' hh'
 refine wp_region_grow 16 [9,10,11,12,13,14,15,16,17,18,19,20,21,22,7,8] [Fact.is (.slice an (limbs n).length cn),Fact.is (.int .i64 k),Fact.is (.pointer (some ⟨g3,1,none⟩)),Fact.is (.slice b (limbs (lmL E f)).length e),Fact.is (.pointer (some ⟨g3,3,none⟩)),Fact.is (.int .i64 x),Fact.is (.int .i64 c1),Fact.is (.slice an (limbs n).length cn),Fact.is (.int .i64 k),Fact.is (.pointer (some ⟨g3,2,none⟩)),Fact.is (.slice c (limbs (4*lmM E f+2)).length g),Fact.is (.pointer (some ⟨g3,3,none⟩)),Fact.is (.int .i64 x),Fact.is (.int .i64 c2),Fact.is (.int .i64 c1),Fact.is (.int .i64 c2)] (by kernel_rfl) (by kernel_rfl) ⟨?o0,?o1,?o2,?o3,?o4,?o5,?o6,?o7,?o8,?o9,?o10,?o11,?o12,?o13,?o14,?o15,trivial⟩ ?after
 case o0=>(refine oQ rfl ?_;intro ρ w1 R hcon hfn hρ hb hp hR;have e1:ρ (.tmp 1)=.slice an (limbs n).length cn:=hρ.tmp 1 rfl;clear hρ hp;unfold OpRun;go_simp;exact hR _ _ (Below.refl _ _) rfl)
 case o1=>(refine oQ rfl ?_;intro ρ w1 R hcon hfn hρ hb hp hR;have e2:ρ (.tmp 2)=.int .i64 k:=hρ.tmp 2 rfl;clear hρ hp;unfold OpRun;go_simp;exact hR _ _ (Below.refl _ _) rfl)
 case o2=>(refine oQ rfl ?_;intro ρ w1 R hcon hfn hρ hb hp hR;have e3:ρ (.tmp 3)=.pointer (some ⟨g3,0,none⟩):=hρ.tmp 3 rfl;clear hρ hp;unfold OpRun;go_simp;exact hR _ _ (Below.refl _ _) rfl)
 case o3=>(refine oQ rfl ?_;intro ρ w1 R hcon hfn hρ hb hp hR;have e11:ρ (.tmp 11)=_:=hp 2 11 rfl rfl;obtain ⟨j0,j1,j2,j3,j4,-⟩:=zB1.below hb;clear hρ hp;unfold OpRun;go_simp;exact hR _ _ (Below.refl _ _) rfl)
 case o4=>(refine oQ rfl ?_;intro ρ w1 R hcon hfn hρ hb hp hR;have e3:ρ (.tmp 3)=.pointer (some ⟨g3,0,none⟩):=hρ.tmp 3 rfl;clear hρ hp;unfold OpRun;go_simp;exact hR _ _ (Below.refl _ _) rfl)
 case o5=>(refine oQ rfl ?_;intro ρ w1 R hcon hfn hρ hb hp hR;have e13:ρ (.tmp 13)=_:=hp 4 13 rfl rfl;obtain ⟨j0,j1,j2,j3,j4,-⟩:=zB1.below hb;clear hρ hp;unfold OpRun;go_simp;exact hR _ _ (Below.refl _ _) rfl)
 case o6=>(refine oQ rfl ?_;intro ρ w1 R hcon hfn hρ hb hp hR;have e9:ρ (.tmp 9)=_:=hp 0 9 rfl rfl;have e10:ρ (.tmp 10)=_:=hp 1 10 rfl rfl;have e12:ρ (.tmp 12)=_:=hp 3 12 rfl rfl;have e14:ρ (.tmp 14)=_:=hp 5 14 rfl rfl;clear hρ hp;unfold OpRun;go_simp;(refine (S1.out _ (n1.below hb) (l1.below hb)).mono ?_;rintro e wn ⟨rfl,hbn⟩;exact ⟨_,rfl,hR _ _ hbn rfl⟩))
 case o7=>(refine oQ rfl ?_;intro ρ w1 R hcon hfn hρ hb hp hR;have e1:ρ (.tmp 1)=.slice an (limbs n).length cn:=hρ.tmp 1 rfl;clear hρ hp;unfold OpRun;go_simp;exact hR _ _ (Below.refl _ _) rfl)
 case o8=>(refine oQ rfl ?_;intro ρ w1 R hcon hfn hρ hb hp hR;have e2:ρ (.tmp 2)=.int .i64 k:=hρ.tmp 2 rfl;clear hρ hp;unfold OpRun;go_simp;exact hR _ _ (Below.refl _ _) rfl)
 case o9=>(refine oQ rfl ?_;intro ρ w1 R hcon hfn hρ hb hp hR;have e3:ρ (.tmp 3)=.pointer (some ⟨g3,0,none⟩):=hρ.tmp 3 rfl;clear hρ hp;unfold OpRun;go_simp;exact hR _ _ (Below.refl _ _) rfl)
 case o10=>(refine oQ rfl ?_;intro ρ w1 R hcon hfn hρ hb hp hR;have e18:ρ (.tmp 18)=_:=hp 9 18 rfl rfl;obtain ⟨j0,j1,j2,j3,j4,-⟩:=zB1.below hb;clear hρ hp;unfold OpRun;go_simp;exact hR _ _ (Below.refl _ _) rfl)
 case o11=>(refine oQ rfl ?_;intro ρ w1 R hcon hfn hρ hb hp hR;have e3:ρ (.tmp 3)=.pointer (some ⟨g3,0,none⟩):=hρ.tmp 3 rfl;clear hρ hp;unfold OpRun;go_simp;exact hR _ _ (Below.refl _ _) rfl)
 case o12=>(refine oQ rfl ?_;intro ρ w1 R hcon hfn hρ hb hp hR;have e20:ρ (.tmp 20)=_:=hp 11 20 rfl rfl;obtain ⟨j0,j1,j2,j3,j4,-⟩:=zB1.below hb;clear hρ hp;unfold OpRun;go_simp;exact hR _ _ (Below.refl _ _) rfl)
 case o13=>(refine oQ rfl ?_;intro ρ w1 R hcon hfn hρ hb hp hR;have e16:ρ (.tmp 16)=_:=hp 7 16 rfl rfl;have e17:ρ (.tmp 17)=_:=hp 8 17 rfl rfl;have e19:ρ (.tmp 19)=_:=hp 10 19 rfl rfl;have e21:ρ (.tmp 21)=_:=hp 12 21 rfl rfl;clear hρ hp;unfold OpRun;go_simp;(refine (S2.out _ (n1.below hb) (h1.below hb)).mono ?_;rintro e wn ⟨rfl,hbn⟩;exact ⟨_,rfl,hR _ _ hbn rfl⟩))
 case o14=>(refine oQ rfl ?_;intro ρ w1 R hcon hfn hρ hb hp hR;have e15:ρ (.tmp 15)=_:=hp 6 15 rfl rfl;clear hρ hp;unfold OpRun;go_simp;exact hR _ _ (Below.refl _ _) rfl)
 case o15=>(refine oQ rfl ?_;intro ρ w1 R hcon hfn hρ hb hp hR;have e22:ρ (.tmp 22)=_:=hp 13 22 rfl rfl;clear hρ hp;unfold OpRun;go_simp;exact hR _ _ (Below.refl _ _) rfl)
 case after=>
  intro u wn hb hf
  have e7:u 7=_:=hf 14 7 (by omega) rfl
  have e8:u 8=_:=hf 15 8 (by omega) rfl
  clear hf
  simp only [putAll,Act.put,List.setIfInBounds_toArray,List.set_cons_zero,List.set_cons_succ,List.drop_succ_cons,List.drop_zero,List.drop_nil]
  rw [e7,e8]
  have zB2:=zB1.below hb
  obtain ⟨j0,j1,j2,j3,j4,-⟩:=id zB2
  have yb:=below_trans y1 hb
  by_cases a1:0<c1
  ·by_cases a2:c2<0
   ·have H5:=hid (show F=true by rw [HFF.out];simp [a1,a2])
    clear HFF
    go_wp2_with fail
    go_ret
    exact ⟨by rw [H5.out];rfl,yb⟩
   ·have a3:(c1==0)=false:=beq_eq_false_iff_ne.2 (by omega)
    have a4: ¬c1=0:=by omega
    cases ev
    ·have H5:=hid (show F=false by rw [HFF.out];simp [a1,a2])
     clear HFF
     go_wp2_with fail
     go_ret
     exact ⟨by rw [H5.out];rfl,yb⟩
    ·by_cases a5:c2=0
     ·have a6:(c2==0)=true:=beq_iff_eq.2 a5
      have H5:=hid (show F=true by rw [HFF.out];simp [a1,a2,a4,a5])
      clear HFF a4 a5
      go_wp2_with fail
      go_ret
      exact ⟨by rw [H5.out];rfl,yb⟩
     ·have a6:(c2==0)=false:=beq_eq_false_iff_ne.2 a5
      have H5:=hid (show F=false by rw [HFF.out];simp [a1,a2,a4,a5])
      clear HFF a4 a5
      go_wp2_with fail
      go_ret
      exact ⟨by rw [H5.out];rfl,yb⟩
  ·cases ev
   ·have H5:=hid (show F=false by rw [HFF.out];simp [a1])
    clear HFF
    go_wp2_with fail
    go_ret
    exact ⟨by rw [H5.out];rfl,yb⟩
   ·by_cases a3:c1=0
    ·have a4:(c1==0)=true:=beq_iff_eq.2 a3
     have H5:=hid (show F=true by rw [HFF.out];simp [a1,a3])
     clear HFF a3
     go_wp2_with fail
     go_ret
     exact ⟨by rw [H5.out];rfl,yb⟩
    ·have a4:(c1==0)=false:=beq_eq_false_iff_ne.2 a3
     by_cases a5:c2=0
     ·have a6:(c2==0)=true:=beq_iff_eq.2 a5
      have H5:=hid (show F=true by rw [HFF.out];simp [a1,a3,a5])
      clear HFF a3 a5
      go_wp2_with fail
      go_ret
      exact ⟨by rw [H5.out];rfl,yb⟩
     ·have a6:(c2==0)=false:=beq_eq_false_iff_ne.2 a5
      have H5:=hid (show F=false by rw [HFF.out];simp [a1,a3,a5])
      clear HFF a3 a5
      go_wp2_with fail
      go_ret
      exact ⟨by rw [H5.out];rfl,yb⟩
end Go.Proofs.YtfphmlmgjhebjaaGreatDoor
