/- TopSum: what the proof leans on, part 11 (Sp5 Ss1 Ss2 Zt Rm Es0 Es1 Qr0 Wh0 Qr1 Qs3 Ss3 Ss4 Ss11 Ss12 Qt1 Qr2 Qs6 Qt4 Tw1 Ex1 Gt Hp Gs1 Os0 Os1 Ap). -/
import Derived.BigRegion
import Derived.Deep.DeepCutAuto
import Derived.Deep.CutBlock
import Derived.Deep.RegionHeld3
import Derived.WalkSpells
import Derived.ArgAppend
import Derived.Lib.BitFns
import Derived.BigQuiet
import Derived.Deep.QuietTactic
import Derived.Test.YtfphmlmgjhebjaaGreatDoorKTopSum1
import Derived.Test.YtfphmlmgjhebjaaGreatDoorKTopSum2
import Derived.Test.YtfphmlmgjhebjaaGreatDoorKTopSum3
import Derived.Test.YtfphmlmgjhebjaaGreatDoorKTopSum4
import Derived.Test.YtfphmlmgjhebjaaGreatDoorKTopSum5
import Derived.Test.YtfphmlmgjhebjaaGreatDoorKTopSum7
import Derived.Test.YtfphmlmgjhebjaaGreatDoorKTopSum8
import Derived.Test.YtfphmlmgjhebjaaGreatDoorKTopSum9
import Derived.Test.YtfphmlmgjhebjaaGreatDoorKTopSum10
set_option linter.unusedVariables false
set_option linter.unusedSimpArgs false
namespace Go.Ulp
open Go.RowKit
theorem SL.made2 {w:World} {l h m i:Int} {t:TypeId}:SL (w.alloc (.cells #[.int .u64 l,.int .u64 h,.int .u64 m,.int .u64 i] t)) w.heap.size [(l,h),(m,i)]:=by
 intro k hk
 rcases (show k=0∨k=1 by simp at hk;omega) with e|e<;>subst e
 ·refine ⟨?_,?_⟩<;>(rw [World.cell?_alloc_at (hn:=rfl)];rfl)
 ·refine ⟨?_,?_⟩<;>(rw [World.cell?_alloc_at (hn:=rfl)];rfl)
def LS (w W:World) (gA gB gO gH gM:Nat) (al ah bl bh o1 o2 h1 h2 m1 m2:Int):Prop:=
 Below w.heap.size w W∧SV W gA al ah∧SV W gB bl bh∧SV W gO o1 o2∧SV W gH h1 h2∧SV W gM m1 m2
theorem LS.below {w W W':World} {gA gB gO gH gM:Nat} {al ah bl bh o1 o2 h1 h2 m1 m2:Int} (h:LS w W gA gB gO gH gM al ah bl bh o1 o2 h1 h2 m1 m2) (hb:Below W.heap.size W W'):LS w W' gA gB gO gH gM al ah bl bh o1 o2 h1 h2 m1 m2:=
 ⟨below_trans h.1 hb,h.2.1.below hb,h.2.2.1.below hb,h.2.2.2.1.below hb,h.2.2.2.2.1.below hb,h.2.2.2.2.2.below hb⟩
def XV (w:World) (g:Nat) (c0 c1 c2 c3:Value):Prop:=w.cell? ⟨g,0,none⟩=some c0∧w.cell? ⟨g,1,none⟩=some c1∧w.cell? ⟨g,2,none⟩=some c2∧w.cell? ⟨g,3,none⟩=some c3
theorem XV.below {w w':World} {g:Nat} {c0 c1 c2 c3:Value} (h:XV w g c0 c1 c2 c3) (hb:Below w.heap.size w w'):XV w' g c0 c1 c2 c3:=by
 have hl:g<w.heap.size:=World.block_lt_of_cell? w _ h.1
 exact ⟨(hb.cell (p:=⟨g,0,none⟩) hl).trans h.1,(hb.cell (p:=⟨g,1,none⟩) hl).trans h.2.1,(hb.cell (p:=⟨g,2,none⟩) hl).trans h.2.2.1,(hb.cell (p:=⟨g,3,none⟩) hl).trans h.2.2.2⟩
theorem XV.made {w:World} {c0 c1 c2 c3:Value} {t:TypeId}:XV (w.alloc (.cells #[c0,c1,c2,c3] t)) w.heap.size c0 c1 c2 c3:=by
 refine ⟨?_,?_,?_,?_⟩<;>(rw [World.cell?_alloc_at (hn:=rfl)];rfl)
theorem SV.far {w:World} {g:Nat} {l h:Int} (hs:SV w g l h) (a:Addr) (u:Value) (hne:g≠a.block):SV (w.setCell a u) g l h:=by
 obtain ⟨h1,h2,h3,h4⟩:=hs
 refine ⟨?_,?_,?_,?_⟩
 ·rw [World.cell?_setCell_other (h:=fun e=>hne (by rw [e]))];exact h1
 ·rw [World.cell?_setCell_other (h:=fun e=>hne (by rw [e]))];exact h2
 ·rw [frozen_setCell];exact h3
 ·rw [frozen_setCell];exact h4
theorem SV.set0 {w:World} {g:Nat} {l h:Int} (hs:SV w g l h) (u:Int):SV (w.setCell ⟨g,0,none⟩ (.int .u64 u)) g u h:=by
 obtain ⟨h1,h2,h3,h4⟩:=hs
 refine ⟨?_,?_,?_,?_⟩
 ·exact World.cell?_setCell_same (w:=w) _ _ h1
 ·rw [World.cell?_setCell_other (h:=fun e=>by simp at e)];exact h2
 ·rw [frozen_setCell];exact h3
 ·rw [frozen_setCell];exact h4
theorem SV.set1 {w:World} {g:Nat} {l h:Int} (hs:SV w g l h) (u:Int):SV (w.setCell ⟨g,1,none⟩ (.int .u64 u)) g l u:=by
 obtain ⟨h1,h2,h3,h4⟩:=hs
 refine ⟨?_,?_,?_,?_⟩
 ·rw [World.cell?_setCell_other (h:=fun e=>by simp at e)];exact h1
 ·exact World.cell?_setCell_same (w:=w) _ _ h2
 ·rw [frozen_setCell];exact h3
 ·rw [frozen_setCell];exact h4
theorem LS.far {w W:World} {gA gB gO gH gM:Nat} {al ah bl bh o1 o2 h1 h2 m1 m2:Int} (h:LS w W gA gB gO gH gM al ah bl bh o1 o2 h1 h2 m1 m2) (a:Addr) (u:Value) (hw:w.heap.size≤a.block) (hA:gA≠a.block) (hB:gB≠a.block) (hO:gO≠a.block) (hH:gH≠a.block) (hM:gM≠a.block):LS w (W.setCell a u) gA gB gO gH gM al ah bl bh o1 o2 h1 h2 m1 m2:=
 ⟨h.1.setCell hw u,h.2.1.far a u hA,h.2.2.1.far a u hB,h.2.2.2.1.far a u hO,h.2.2.2.2.1.far a u hH,h.2.2.2.2.2.far a u hM⟩
def LQ (w W:World) (gA gB gO gH gM g g':Nat) (al ah bl bh o1 o2 h1 h2 m1 m2 x y z v:Int):Prop:=
 LS w W gA gB gO gH gM al ah bl bh o1 o2 h1 h2 m1 m2∧SV W g x y∧SV W g' z v
theorem LQ.below {w W W':World} {gA gB gO gH gM g g':Nat} {al ah bl bh o1 o2 h1 h2 m1 m2 x y z v:Int} (h:LQ w W gA gB gO gH gM g g' al ah bl bh o1 o2 h1 h2 m1 m2 x y z v) (hb:Below W.heap.size W W'):LQ w W' gA gB gO gH gM g g' al ah bl bh o1 o2 h1 h2 m1 m2 x y z v:=
 ⟨h.1.below hb,h.2.1.below hb,h.2.2.below hb⟩
theorem LQ.set {w W:World} {gA gB gO gH gM g g':Nat} {al ah bl bh o1 o2 h1 h2 m1 m2 x y z v:Int} (h:LQ w W gA gB gO gH gM g g' al ah bl bh o1 o2 h1 h2 m1 m2 x y z v)
 (hw:w.heap.size≤g∧w.heap.size≤g') (hg:gA≠g∧gB≠g∧gO≠g∧gH≠g∧gM≠g) (hg':gA≠g'∧gB≠g'∧gO≠g'∧gH≠g'∧gM≠g') (hne:g≠g') (u:Int):
 LQ w (W.setCell ⟨g,0,none⟩ (.int .u64 u)) gA gB gO gH gM g g' al ah bl bh o1 o2 h1 h2 m1 m2 u y z v∧LQ w (W.setCell ⟨g,1,none⟩ (.int .u64 u)) gA gB gO gH gM g g' al ah bl bh o1 o2 h1 h2 m1 m2 x u z v∧
 LQ w (W.setCell ⟨g',0,none⟩ (.int .u64 u)) gA gB gO gH gM g g' al ah bl bh o1 o2 h1 h2 m1 m2 x y u v∧LQ w (W.setCell ⟨g',1,none⟩ (.int .u64 u)) gA gB gO gH gM g g' al ah bl bh o1 o2 h1 h2 m1 m2 x y z u:=by
 obtain ⟨h1,h2,h3⟩:=h
 exact ⟨⟨h1.far _ _ hw.1 hg.1 hg.2.1 hg.2.2.1 hg.2.2.2.1 hg.2.2.2.2,h2.set0 u,h3.far _ _ (Ne.symm hne)⟩,⟨h1.far _ _ hw.1 hg.1 hg.2.1 hg.2.2.1 hg.2.2.2.1 hg.2.2.2.2,h2.set1 u,h3.far _ _ (Ne.symm hne)⟩,
  ⟨h1.far _ _ hw.2 hg'.1 hg'.2.1 hg'.2.2.1 hg'.2.2.2.1 hg'.2.2.2.2,h2.far _ _ hne,h3.set0 u⟩,⟨h1.far _ _ hw.2 hg'.1 hg'.2.1 hg'.2.2.1 hg'.2.2.2.1 hg'.2.2.2.2,h2.far _ _ hne,h3.set1 u⟩⟩
end Go.Ulp
namespace Go.Proofs.YtfphmlmgjhebjaaGreatDoor
open Go.RowKit Go.Ulp
set_option maxHeartbeats 4000000
set_option maxRecDepth 100000
def CB (w W:World) (gA gB gR gO:Nat) (l h m i:Int):Prop:=Below w.heap.size w W∧SV W gA l h∧SV W gB m i∧SV W gR 0 0∧w.heap.size≤gO∧gA≠gO∧gB≠gO∧gR≠gO
theorem CB.below {w W W':World} {gA gB gR gO:Nat} {l h m i:Int} (c:CB w W gA gB gR gO l h m i) (hb:Below W.heap.size W W'):CB w W' gA gB gR gO l h m i:=
 ⟨below_trans c.1 hb,c.2.1.below hb,c.2.2.1.below hb,c.2.2.2.1.below hb,c.2.2.2.2⟩
theorem CB.set {w W:World} {gA gB gR gO:Nat} {l h m i:Int} (c:CB w W gA gB gR gO l h m i) (o:Nat) (v:Value):CB w (W.setCell ⟨gO,o,none⟩ v) gA gB gR gO l h m i:=by
 obtain ⟨c1,c2,c3,c4,c5,c6,c7,c8⟩:=c
 exact ⟨c1.setCell (p:=⟨gO,o,none⟩) c5 _,c2.far _ _ c6,c3.far _ _ c7,c4.far _ _ c8,c5,c6,c7,c8⟩
end Go.Proofs.YtfphmlmgjhebjaaGreatDoor
namespace Go.Ulp
open Go.RowKit
def DF (tz ti:TypeId) (gS gQ gR m:Nat) (w1:World) (l:List (Nat×Bool×Value)) (T:List Nat) (R:Int) (W:World):Prop:=
 KV tz W l∧ZL tz W gQ false (.slice (some ⟨gS,0,none⟩) m m)∧Own gS ti .i64 W (.slice (some ⟨gS,0,none⟩) m m) T∧RV tz ti gS W gR R∧Below w1.heap.size w1 W
def DO (gS gQ gR:Nat) (w1:World) (l:List (Nat×Bool×Value)):Prop:=(∀e∈l,e.1<gS)∧gS<gQ∧gQ<gR∧w1.heap.size≤gS
section
variable {tz ti:TypeId} {gS gQ gR m:Nat} {w1:World} {l:List (Nat×Bool×Value)} {T:List Nat} {R:Int} {W W':World}
theorem DF.below (h:DF tz ti gS gQ gR m w1 l T R W) (hb:Below W.heap.size W W'):DF tz ti gS gQ gR m w1 l T R W':=by
 obtain ⟨h1,h2,h3,h4,h5⟩:=h
 exact ⟨h1.below hb,h2.below hb,h3.kept hb,h4.below hb,below_trans h5 hb⟩
theorem DF.drew (h:DF tz ti gS gQ gR m w1 l T R W):DF tz ti gS gQ gR m w1 l T R W.drew:=h.below (Below.drew (Below.refl _ _))
theorem DF.drewN (h:DF tz ti gS gQ gR m w1 l T R W) (n:Nat):DF tz ti gS gQ gR m w1 l T R (W.drewN n):=h.below (below_drewN (Below.refl _ _) n)
theorem DF.alloc (h:DF tz ti gS gQ gR m w1 l T R W) (o:Obj):DF tz ti gS gQ gR m w1 l T R (W.alloc o):=h.below (below_alloc _ _)
theorem DF.set2 (ho:DO gS gQ gR w1 l) (hne:tz≠ti) (h:DF tz ti gS gQ gR m w1 l T R W) {b:Nat} (hs:ElemIs W b tz) (hb:gR<b) (u v:Value):DF tz ti gS gQ gR m w1 l T R ((W.setCell ⟨b,0,none⟩ u).setCell ⟨b,1,none⟩ v):=by
 obtain ⟨h1,h2,h3,h4,h5⟩:=h
 obtain ⟨o1,o2,o3,o4⟩:=ho
 exact ⟨h1.far2 (fun e he=>by have:=o1 e he;omega) _ _,(h2.far _ _ (by simp;omega)).far _ _ (by simp;omega),(h3.far _ (by simp;omega) _).far _ (by simp;omega) _,h4.set2 hs hne (by omega) _ _,(h5.setCell (by simp;omega) _).setCell (by simp;omega) _⟩
def ZV (tz ti:TypeId) (w:World) (g:Nat) (x:Int):Prop:= ∃ao cap,ZL tz w g (zneg x) (.slice ao (zl x).length cap)∧Nz ti w ao cap (zl x)
theorem RV.zv {f g:Nat} {x:Int} (h:RV tz ti f W g x):ZV tz ti W g x:=by obtain ⟨ao,cap,h1,h2,_⟩:=h;exact ⟨ao,cap,h1,h2⟩
theorem ZV.below {g:Nat} {x:Int} (h:ZV tz ti W g x) (hb:Below W.heap.size W W'):ZV tz ti W' g x:=by obtain ⟨ao,cap,h1,h2⟩:=h;exact ⟨ao,cap,h1.below hb,h2.below hb⟩
theorem ZV.set2 {g b:Nat} {x:Int} (h:ZV tz ti W g x) (hs:ElemIs W b tz) (hne:tz≠ti) (hgb:g≠b) (u v:Value):ZV tz ti ((W.setCell ⟨b,0,none⟩ u).setCell ⟨b,1,none⟩ v) g x:=by
 obtain ⟨ao,cap,h1,h2⟩:=h
 exact ⟨ao,cap,(h1.far _ _ hgb).far _ _ hgb,(h2.setCell hs hne 0 u).setCell (hs.setCell _ _) hne 1 v⟩
theorem ZV.store {g:Nat} {n:Bool} {v:Value} {y:Int} {ao:Option Addr} {cap:Nat} (h:ZL tz W g n v) (hN:Nz ti W ao cap (zl y)) (hne:tz≠ti):ZV tz ti ((W.setCell ⟨g,0,none⟩ (.bool (zneg y))).setCell ⟨g,1,none⟩ (.slice ao (zl y).length cap)) g y:=
 ⟨ao,cap,(h.set0 _).set1 _,(hN.setCell h.2.2.2.2 hne 0 _).setCell (h.2.2.2.2.setCell _ _) hne 1 _⟩
def DG (tz ti:TypeId) (gS gQ gR:Nat) (w1:World) (l:List (Nat×Bool×Value)) (q r:Int) (W:World):Prop:=
 KV tz W l∧ZV tz ti W gQ q∧ZV tz ti W gR r∧Below w1.heap.size w1 W
theorem DG.below {q r:Int} (h:DG tz ti gS gQ gR w1 l q r W) (hb:Below W.heap.size W W'):DG tz ti gS gQ gR w1 l q r W':=by
 obtain ⟨h1,h2,h3,h4⟩:=h
 exact ⟨h1.below hb,h2.below hb,h3.below hb,below_trans h4 hb⟩
theorem DF.dg {y:Int} (ho:DO gS gQ gR w1 l) (hne:tz≠ti) (h:DF tz ti gS gQ gR m w1 l T R W) {ao:Option Addr} {cap:Nat} (hN:Nz ti W ao cap (zl y)):DG tz ti gS gQ gR w1 l y R ((W.setCell ⟨gQ,0,none⟩ (.bool (zneg y))).setCell ⟨gQ,1,none⟩ (.slice ao (zl y).length cap)):=by
 obtain ⟨h1,h2,h3,h4,h5⟩:=h
 obtain ⟨o1,o2,o3,o4⟩:=ho
 exact ⟨h1.far2 (fun e he=>by have:=o1 e he;omega) _ _,ZV.store h2 hN hne,h4.zv.set2 h2.2.2.2.2 hne (by omega) _ _,(h5.setCell (by simp;omega) _).setCell (by simp;omega) _⟩
end
end Go.Ulp
namespace Go.Proofs.YtfphmlmgjhebjaaGreatDoor
open Go.RowKit Go.Ulp
set_option maxHeartbeats 20000000
set_option maxRecDepth 100000
end Go.Proofs.YtfphmlmgjhebjaaGreatDoor
namespace Go.Ulp
open Go.RowKit
def ZD2 (t:TypeId) (w:World) (x y:Int) (v:Value):Prop:=
 ∃ao cap bo cbp,v=.tuple #[.agg #[.bool (zneg x),.slice ao (zl x).length cap],.agg #[.bool (zneg y),.slice bo (zl y).length cbp]]∧Nz t w ao cap (zl x)∧Nz t w bo cbp (zl y)
def Fact.z2 (t:TypeId) (x y:Int):Fact:=⟨fun v w=>ZD2 t w x y v,fun _ _ _ h hb=>by
 obtain ⟨ao,cap,bo,cbp,h1,h2,h3⟩:=h;exact ⟨ao,cap,bo,cbp,h1,h2.below hb,h3.below hb⟩⟩
def Fact.z0 (B:Nat) (t:TypeId):Fact:=⟨fun v w=> ∃g,v=.pointer (some ⟨g,0,none⟩)∧B≤g∧ZL t w g false (.slice none 0 0),fun _ _ _ h hb=>by
 obtain ⟨g,h1,h2,h3⟩:=h;exact ⟨g,h1,h2,h3.below hb⟩⟩
end Go.Ulp
namespace Go.Proofs.YtfphmlmgjhebjaaGreatDoor
open Go.RowKit Go.Ulp
set_option maxHeartbeats 4000000
set_option maxRecDepth 100000
end Go.Proofs.YtfphmlmgjhebjaaGreatDoor
namespace Go.Ulp
open Go.RowKit
def mulK (D:Dy) (p:Int):Bool:=decide (p≤D.2∨D.1=0)
def mplD (D:Dy) (p mode:Int):Dy:=if mulK D p=true then nrm D.1 D.2 else nrm (sg (decide (D.1<0)) (cutN (decide (D.1<0)) D.1.natAbs (p-D.2) mode:Int)) p
end Go.Ulp
namespace Go.Proofs.YtfphmlmgjhebjaaGreatDoor
open Go.RowKit Go.Ulp
set_option maxHeartbeats 1000000
set_option maxRecDepth 100000
end Go.Proofs.YtfphmlmgjhebjaaGreatDoor
namespace Go.Ulp
open Go.RowKit
end Go.Ulp
namespace Go.Proofs.YtfphmlmgjhebjaaGreatDoor
open Go.RowKit Go.Ulp
set_option maxHeartbeats 2000000
set_option maxRecDepth 100000
end Go.Proofs.YtfphmlmgjhebjaaGreatDoor
namespace Go.Ulp
open Go.RowKit
def dn (N j:Nat):Nat:=N/2^j*2^j
def whole (D:Dy):Int:=D.1*pw D.2.toNat
def EX (ti:TypeId) (w:World) (way:Int) (D:Dy) (A:Nat) (v:Value):Prop:=
 ∃n ao l c t,v=.agg #[.bool n,.slice ao l c,.int .i64 t,.int .i64 way]∧QD ti w D A (A-100) (.agg #[.bool n,.slice ao l c,.int .i64 t])
theorem EX.below {ti:TypeId} {w w':World} {way:Int} {D:Dy} {A:Nat} {v:Value} (h:EX ti w way D A v) (hb:Below w.heap.size w w'):EX ti w' way D A v:=by
 obtain ⟨n,ao,l,c,t,h1,h2⟩:=h
 exact ⟨n,ao,l,c,t,h1,h2.below hb⟩
def Fact.ex (ti:TypeId) (way:Int) (D:Dy) (A:Nat):Fact:=⟨fun v w=>EX ti w way D A v,fun _ _ _ h hb=>h.below hb⟩
theorem XV.alloc {w:World} {g:Nat} {c0 c1 c2 c3:Value} (h:XV w g c0 c1 c2 c3) (o:Obj):XV (w.alloc o) g c0 c1 c2 c3:=h.below (below_alloc w o)
end Go.Ulp
namespace Go.Proofs.YtfphmlmgjhebjaaGreatDoor
open Go.RowKit Go.Ulp
set_option maxHeartbeats 2000000
set_option maxRecDepth 100000
end Go.Proofs.YtfphmlmgjhebjaaGreatDoor
namespace Go.Ulp
open Go.RowKit
theorem rank_ranked (l:Int) (h0: -9218868437227405312≤l) (h1:l≤9218868437227405312):rankOf (ranked l)=l:=by
 unfold ranked rankOf
 split<;>split<;>omega
theorem rank_tell (b:Bool) (l:Int) (h0: -9218868437227405312≤l) (h1:l≤9218868437227405312):rankOf (tellR b l)=l:=by
 unfold tellR
 split
 ·rename_i h;rw [h.1];rfl
 ·exact rank_ranked l h0 h1
theorem rX_rnd (D:Dy) (s:Nat) (hs:0≤D.2+1074+s) (mode:Int) (m0:0≤mode) (m1:mode≤4):Rnd s (D.1*pw (D.2+1074+s).toNat) mode (rX D mode) (rC D mode):=by
 have h:=number_rnd (decide (D.1<0)) D.1.natAbs D.2 mode s m0 m1 (fun h=>decide_eq_false (by omega)) hs
 have e:sg (decide (D.1<0)) ((D.1.natAbs*2^(D.2+1074+s).toNat:Nat):Int)=D.1*pw (D.2+1074+s).toNat:=by
  rw [Int.natCast_mul,←pw_nat]
  unfold sg
  by_cases hn:D.1<0
  ·rw [decide_eq_true hn,if_pos rfl,←Int.neg_mul];congr 1;omega
  ·rw [decide_eq_false hn,if_neg (by decide)];congr 1;omega
 rw [e] at h
 exact h
theorem limbs_short1 (A n:Nat) (hn:A≤32*n) (M:Nat) (h:M<2^A):(limbs M).length≤n:=
 (limbs_le_bits M n).2 (Nat.lt_of_lt_of_le h (Nat.pow_le_pow_right (by omega) hn))
def rdL (w:World) (v:Value):Nat:=
 match v with
 | .slice (some a) l _=>lval ((List.range l).map fun i=>(intOf ((w.cell? ⟨a.block,a.off+i,none⟩).getD undef)).toNat)
 |_=>0
theorem rdL_eq {w:World} {ao:Option Addr} {cap:Nat} {L:List Nat} (h:Ns .u32 w ao cap L):rdL w (.slice ao L.length cap)=lval L:=by
 obtain ⟨h1,h2,h3⟩:=h
 rcases Nat.eq_zero_or_pos L.length with hl|hl
 ·have:L= []:=List.length_eq_zero_iff.1 hl
  subst this
  cases ao<;>rfl
 ·obtain ⟨b,off,rfl,hc⟩:=h3 hl
  show lval ((List.range L.length).map _)=lval L
  congr 1
  refine List.ext_getElem (by simp) (fun i k1 k2=>?_)
  rw [List.getElem_map,List.getElem_range,hc i k2]
  show (lb L i).toNat=L[i]
  unfold lb
  rw [Int.toNat_natCast,List.getD_eq_getElem?_getD,List.getElem?_eq_getElem k2];rfl
end Go.Ulp
namespace Go.Proofs.YtfphmlmgjhebjaaGreatDoor
open Go.RowKit Go.Ulp
set_option maxHeartbeats 4000000
set_option maxRecDepth 100000
end Go.Proofs.YtfphmlmgjhebjaaGreatDoor
namespace Go.Ulp
open Go.RowKit
theorem rvi_rep2 (n:Nat): ∃q h,rvi n=q*2^h∧rvi (n+1)=(q+1)*2^h∧q<9007199254740992∧(h=0∨4503599627370496≤q):=by
 by_cases hn:n<4503599627370496
 ·have:=rvi_parts 0 n (by omega) (.inl rfl)
  rw [Nat.zero_mul,Nat.zero_add] at this
  exact ⟨n,0,this.1,this.2,by omega,.inl rfl⟩
 ·have:=rvi_parts (n/4503599627370496-1) (n%4503599627370496+4503599627370496) (by omega) (.inr (by omega))
  rw [show (n/4503599627370496-1)*4503599627370496+(n%4503599627370496+4503599627370496)=n by omega] at this
  exact ⟨_,_,this.1,this.2,by omega,.inr (by omega)⟩
end Go.Ulp
namespace Go.Proofs.YtfphmlmgjhebjaaGreatDoor
open Go.RowKit Go.Ulp
set_option maxHeartbeats 4000000
set_option maxRecDepth 100000
end Go.Proofs.YtfphmlmgjhebjaaGreatDoor
namespace Go.Ulp
open Go.RowKit
end Go.Ulp
namespace Go.Proofs.YtfphmlmgjhebjaaGreatDoor
open Go.RowKit Go.Ulp
set_option maxHeartbeats 4000000
set_option maxRecDepth 100000
end Go.Proofs.YtfphmlmgjhebjaaGreatDoor
namespace Go.Ulp
open Go.RowKit
theorem rp_rvi (n:Nat):Rp (rvi n:Int):=by
 obtain ⟨q,h,e,-,hq,-⟩:=rvi_rep2 n
 exact ⟨q,h,by rw [e,pw_nat,Int.natCast_mul],by omega⟩
theorem rp_rvs (r:Int):Rp (rvs r):=by
 unfold rvs;split
 ·exact rp_neg (rp_rvi _)
 ·exact rp_rvi _
theorem rp_gap_nat (n:Nat) (u:Int) (hu:Rp u) (h:(rvi n:Int)<u):(rvi (n+1):Int)≤u:=by
 obtain ⟨q,k,e,e1,hq,hk⟩:=rvi_rep2 n
 rcases Nat.eq_zero_or_pos k with k0|k0
 ·subst k0;rw [Nat.pow_zero] at e e1;omega
 ·have hq2:4503599627370496≤q:=by omega
  obtain ⟨m,j,em,hm⟩:=hu
  have pj:=pw_pos j
  have pk:=pw_pos k
  have e':(rvi n:Int)=(q:Int)*pw k:=by rw [e,pw_nat,Int.natCast_mul]
  have e1':(rvi (n+1):Int)=((q:Int)+1)*pw k:=by rw [e1,pw_nat,Int.natCast_mul,Int.natCast_add];rfl
  have hkj:k≤j:=by
   rcases Nat.lt_or_ge j k with h9|h9
   ·exfalso
    have s:=pw_split (show j≤k by omega)
    have s2:pw (k-j)=2*pw (k-j-1):=by rw [←pw_succ];congr 1;omega
    have p2:=pw_pos (k-j-1)
    have hq3:(4503599627370496:Int)*pw k≤(q:Int)*pw k:=Int.mul_le_mul_of_nonneg_right (by omega) (Int.le_of_lt pk)
    have hm2:m*pw j≤9007199254740991*pw j:=Int.mul_le_mul_of_nonneg_right (by omega) (Int.le_of_lt pj)
    have hs:pw j*2≤pw k:=by
     rw [s,s2,Int.mul_comm (pw j) 2]
     exact Int.mul_le_mul_of_nonneg_right (by omega) (Int.le_of_lt pj)
    omega
   ·exact h9
  have hd:u=(m*pw (j-k))*pw k:=by rw [em,pw_split hkj,Int.mul_assoc]
  rw [e',hd] at h
  have:=Int.lt_of_mul_lt_mul_right h (Int.le_of_lt pk)
  rw [e1',hd]
  exact Int.mul_le_mul_of_nonneg_right (by omega) (Int.le_of_lt pk)
theorem rp_gap_nat2 (n:Nat) (u:Int) (hu:Rp u) (h:u<(rvi (n+1):Int)):u≤(rvi n:Int):=by
 rcases Classical.em (u≤(rvi n:Int)) with k|k
 ·exact k
 ·have:=rp_gap_nat n u hu (by omega);omega
theorem rp_gap (l u:Int) (hu:Rp u):u≤rvs l∨rvs (l+1)≤u:=by
 rcases Int.lt_or_le l 0 with h|h
 ·-- l + 1 <= 0
  obtain ⟨n,hn⟩: ∃n:Nat,l= -((n:Int)+1):=⟨(-l-1).toNat,by omega⟩
  have e1:rvs l= -(rvi (n+1):Int):=by rw [hn,rvs_neg,show (n:Int)+1=((n+1:Nat):Int) by omega,rvs_nat]
  have e2:rvs (l+1)= -(rvi n:Int):=by rw [hn,show -((n:Int)+1)+1= -(n:Int) by omega,rvs_neg,rvs_nat]
  rw [e1,e2]
  rcases Classical.em (u≤ -(rvi (n+1):Int)) with k|k
  ·exact .inl k
  ·have:=rp_gap_nat2 n (-u) (rp_neg hu) (by omega)
   exact .inr (by omega)
 ·obtain ⟨n,rfl⟩:=Int.eq_ofNat_of_zero_le h
  rw [rvs_nat,show (n:Int)+1=((n+1:Nat):Int) by omega,rvs_nat]
  rcases Classical.em (u≤(rvi n:Int)) with k|k
  ·exact .inl k
  ·exact .inr (rp_gap_nat n u hu (by omega))
def rN (v:Int):Int:=rvs (rankOf (rX (nrm v (-1074)) 0))
theorem rvs_le {a b:Int} (h:a≤b):rvs a≤rvs b:=by
 rcases Int.lt_or_eq_of_le h with h|h
 ·exact Int.le_of_lt (rvs_mono h)
 ·rw [h];exact Int.le_refl _
theorem rvs_back {a b:Int} (h:rvs a<rvs b):a<b:=by
 rcases Int.lt_or_le a b with k|k
 ·exact k
 ·have:=rvs_le k;omega
theorem rnd_zero (v:Int): ∃ch,Rnd 0 v 0 (rX (nrm v (-1074)) 0) ch:=by
 by_cases hv:v=0
 ·subst hv
  rw [nrm_zero]
  have h:=rX_rnd (0,0) 0 (by show 0≤(0:Int)+1074+((0:Nat):Int);omega) 0 (by omega) (by omega)
  rw [Int.zero_mul] at h
  exact ⟨_,h⟩
 ·obtain ⟨k,h1,h2⟩:=nrm_rep v (-1074)
  have h:=rX_rnd (nrm v (-1074)) 0 (by rw [h2 hv];omega) 0 (by omega) (by omega)
  rw [show (nrm v (-1074)).1*pw ((nrm v (-1074)).2+1074+((0:Nat):Int)).toNat=v by
   rw [h2 hv,show (-1074+(k:Int)+1074+((0:Nat):Int)).toNat=k by omega];exact h1.symm] at h
  exact ⟨_,h⟩
theorem rT_one (r:Int):rT 0 r=rvs r:=by unfold rT;rw [pw_zero,Int.mul_one]
theorem rN_rank (v:Int) (B:Int) (hB:B<(rvi 9218868437227405311:Int)) (h0: -B≤v) (h1:v≤B):
 ∃l,rvs l≤v∧v<rvs (l+1)∧ -9218868437227405311≤l∧l+1≤9218868437227405311∧((rankOf (rX (nrm v (-1074)) 0)=l∧2*v≤rvs l+rvs (l+1))∨(rankOf (rX (nrm v (-1074)) 0)=l+1∧rvs l+rvs (l+1)≤2*v)):=by
 obtain ⟨ch,l,hl,ha⟩:=rnd_zero v
 obtain ⟨l1,l2,l3,l4⟩:=hl
 unfold cR at l3 l4
 rw [rT_one] at l3 l4
 have a:rvs l≤v:=by
  rcases l3 with e|e
  ·have:rvs l<rvs (-9218868437227405311):=rvs_mono (by omega)
   rw [show (-9218868437227405311:Int)= -((9218868437227405311:Nat):Int) from rfl,rvs_neg,rvs_nat] at this
   omega
  ·exact (cmpI_le _ _).1 e
 have b:v<rvs (l+1):=by
  rcases l4 with e|e
  ·have:rvs 9218868437227405311<rvs (l+1):=rvs_mono (by omega)
   rw [show (9218868437227405311:Int)=((9218868437227405311:Nat):Int) from rfl,rvs_nat] at this
   omega
  ·exact (cmpI_gt _ _).1 e
 have c1:l<9218868437227405311:=rvs_back (by rw [show (9218868437227405311:Int)=((9218868437227405311:Nat):Int) from rfl,rvs_nat];omega)
 have c2: -9218868437227405311<l+1:=rvs_back (by rw [show (-9218868437227405311:Int)= -((9218868437227405311:Nat):Int) from rfl,rvs_neg,rvs_nat];omega)
 refine ⟨l,a,b,by omega,by omega,?_⟩
 have h9:=congrArg Prod.fst ha
 simp only at h9
 rw [h9]
 unfold ansR
 by_cases hc: -9218868437227405312<l∧cR 0 v l=0
 ·rw [if_pos hc]
  refine .inl ⟨rank_ranked l (by omega) (by omega),?_⟩
  have:=hc.2
  unfold cR at this
  rw [rT_one,cmpI_eq_zero] at this
  omega
 ·rw [if_neg hc]
  have hcm:cM 0 v l=cmpI (2*v) (rvs l+rvs (l+1)):=by unfold cM;rw [rT_one,rT_one]
  by_cases hu:upR (decide (cmpI v 0<0)) 0 (cM 0 v l) (l+1)=true
  ·rw [if_pos hu]
   refine .inr ⟨rank_tell _ (l+1) (by omega) (by omega),?_⟩
   unfold upR at hu
   by_cases hz:cM 0 v l=0
   ·rw [hcm,cmpI_eq_zero] at hz;omega
   ·rw [if_neg (by omega),if_neg (by omega)] at hu
    have:=of_decide_eq_true hu
    have h3:0<cM 0 v l:=by omega
    rw [hcm,cmpI_gt] at h3;omega
  ·rw [if_neg hu]
   refine .inl ⟨rank_tell _ l (by omega) (by omega),?_⟩
   unfold upR at hu
   by_cases hz:cM 0 v l=0
   ·rw [hcm,cmpI_eq_zero] at hz;omega
   ·rw [if_neg (by omega),if_neg (by omega)] at hu
    have h3: ¬0<cM 0 v l:=fun k=>hu (decide_eq_true (.inr (.inr ⟨.inl rfl,k⟩)))
    rw [hcm,cmpI_gt] at h3;omega
theorem rN_near (B:Int) (hB:B<(rvi 9218868437227405311:Int)):NearR B rN:=by
 intro v h0 h1
 refine ⟨rp_rvs _,fun u hu=>?_⟩
 obtain ⟨l,a,b,-,-,c⟩:=rN_rank v B hB h0 h1
 have g:=rp_gap l u hu
 unfold rN
 rcases c with ⟨c1,c2⟩|⟨c1,c2⟩<;>rw [c1]<;>omega
theorem class_of_rank_fin (x:Int) (hx:0≤x∧x<18446744073709551616) (h: -9218868437227405311≤rankOf x∧rankOf x≤9218868437227405311):classOf x<4:=by
 have k:=class_val x hx.1 hx.2
 rcases Int.lt_or_le (classOf x) 4 with h4|h4
 ·exact h4
 ·have:=k.1 h4
  unfold absOf at this
  unfold rankOf at h
  split at h<;>omega
theorem plusN_val (a b:Nat) (ha:a<18446744073709551616) (hb:b<18446744073709551616) (ca:classOf (a:Int)<4) (cb:classOf (b:Int)<4) (B:Int) (hB:B<(rvi 9218868437227405311:Int)) (h0: -B≤uV (a:Int)+uV (b:Int)) (h1:uV (a:Int)+uV (b:Int)≤B):
 classOf (plusN a b:Int)<4∧uV (plusN a b:Int)=rN (uV (a:Int)+uV (b:Int)):=by
 have n0:isNan (a:Int)=false∧isInf (a:Int)=false:=by unfold isNan isInf;exact ⟨beq_eq_false_iff_ne.2 (by omega),beq_eq_false_iff_ne.2 (by omega)⟩
 have n1:isNan (b:Int)=false∧isInf (b:Int)=false:=by unfold isNan isInf;exact ⟨beq_eq_false_iff_ne.2 (by omega),beq_eq_false_iff_ne.2 (by omega)⟩
 have any2: ∀p:Int→Bool,anyTo p [a,b] [a,b].length=(p (a:Int)||p (b:Int)):=fun p=>by
  show ((false||p (lb [a,b] 0))||p (lb [a,b] 1))=_
  rw [Bool.false_or];rfl
 have sum2:sumTo [a,b] [a,b].length=uV (a:Int)+uV (b:Int):=by
  show 0+uV (lb [a,b] 0)+uV (lb [a,b] 1)=_
  rw [Int.zero_add];rfl
 have e:(plusN a b:Int)=if uV (a:Int)+uV (b:Int)≠0 then rX (nrm (uV (a:Int)+uV (b:Int)) (-1074)) 0 else (if cntTo pZer [a,b] [a,b].length= [a,b].length then 0 else if cntTo mZer [a,b] [a,b].length= [a,b].length then 9223372036854775808 else if (0:Int)=2 then 9223372036854775808 else 0):=by
  rw [plusN_eq]
  unfold sumX sNan sInf sDy
  rw [any2,any2,any2,sum2]
  unfold pInf mInf
  rw [n0.1,n0.2,n1.1,n1.2]
  rfl
 obtain ⟨l,p,q,l0,l1,c⟩:=rN_rank _ B hB h0 h1
 by_cases hs:uV (a:Int)+uV (b:Int)≠0
 ·rw [if_pos hs] at e
  have hx:=rX_bd (nrm (uV (a:Int)+uV (b:Int)) (-1074)) 0
  have hc:classOf (plusN a b:Int)<4:=by
   rw [e]
   exact class_of_rank_fin _ hx (by rcases c with ⟨c1,-⟩|⟨c1,-⟩<;>rw [c1]<;>omega)
  refine ⟨hc,?_⟩
  unfold uV
  rw [if_pos hc,e]
  rfl
 ·rw [if_neg hs] at e
  have hz:uV (a:Int)+uV (b:Int)=0:=by omega
  have hr:rN 0=0:=near_self (rN_near B hB) (by omega) (by omega) rp_zero
  have key:(plusN a b:Int)=0∨(plusN a b:Int)=9223372036854775808:=by
   rw [e];split
   ·exact .inl rfl
   ·split
    ·exact .inr rfl
    ·split
     ·exact .inr rfl
     ·exact .inl rfl
  rw [hz,hr]
  rcases key with k|k<;>rw [k]<;>exact ⟨by decide,by decide⟩
theorem turnN_val (b:Nat) (hb:b<18446744073709551616) (cb:classOf (b:Int)<4):classOf (turnN b:Int)<4∧uV (turnN b:Int)= -uV (b:Int)∧turnN b<18446744073709551616:=by
 have hb2:=turnN_lt hb
 have e:=turnN_eq hb
 have ha:absOf (turnN b:Int)=absOf (b:Int):=by rw [e];unfold absOf negOf;split<;>omega
 have hr:rankOf (turnN b:Int)= -rankOf (b:Int):=by rw [e];unfold rankOf negOf;split<;>split<;>(try split)<;>omega
 have hc:classOf (turnN b:Int)<4:=by
  have h1:=class_val (turnN b:Int) (by omega) (by omega)
  have h2:=class_val (b:Int) (by omega) (by omega)
  rw [ha] at h1
  rcases Int.lt_or_le (classOf (turnN b:Int)) 4 with k|k
  ·exact k
  ·have:=h2.2 (h1.1 k);omega
 refine ⟨hc,?_,hb2⟩
 unfold uV
 rw [if_pos hc,if_pos cb,hr,rvs_neg]
theorem lessN_val (a b:Nat) (ha:a<18446744073709551616) (hb:b<18446744073709551616) (ca:classOf (a:Int)<4) (cb:classOf (b:Int)<4) (B:Int) (hB:B<(rvi 9218868437227405311:Int)) (h0: -B≤uV (a:Int)-uV (b:Int)) (h1:uV (a:Int)-uV (b:Int)≤B):
 classOf (lessN a b:Int)<4∧uV (lessN a b:Int)=rN (uV (a:Int)-uV (b:Int)):=by
 obtain ⟨t1,t2,t3⟩:=turnN_val b hb cb
 have:=plusN_val a (turnN b) ha t3 ca t1 B hB (by rw [t2];omega) (by rw [t2];omega)
 rw [t2] at this
 exact this
theorem rp_uV (x:Int) (h:classOf x<4):Rp (uV x):=by unfold uV;rw [if_pos h];exact rp_rvs _
theorem near_bd {B:Int} {r:Int→Int} (hr:NearR B r) {v:Int} (K:Int) (h0: -K≤v) (h1:v≤K) (hK:K≤B): -(2*K)≤r v∧r v≤2*K:=by
 have:=near_small hr (v:=v) (by omega) (by omega)
 omega
theorem rest_gen {B:Int} {r:Int→Int} (hr:NearR B r) (pl ls:Nat→Nat→Nat) (u:Nat→Int) (fin:Nat→Prop)
 (hp: ∀a b,fin a→fin b→ -B≤u a+u b→u a+u b≤B→fin (pl a b)∧u (pl a b)=r (u a+u b))
 (hl: ∀a b,fin a→fin b→ -B≤u a-u b→u a-u b≤B→fin (ls a b)∧u (ls a b)=r (u a-u b))
 (hR: ∀a,fin a→Rp (u a)) (a b:Nat) (ca:fin a) (cb:fin b) (X:Int) (a0: -X≤u a) (a1:u a≤X) (b0: -X≤u b) (b1:u b≤X) (hX:128*X≤B):
 fin (pl (ls a (ls (pl a b) b)) (ls b (ls (pl a b) (ls (pl a b) b))))∧u (pl (ls a (ls (pl a b) b)) (ls b (ls (pl a b) (ls (pl a b) b))))=u a+u b-u (pl a b)∧fin (pl a b)∧u (pl a b)=r (u a+u b):=by
 obtain ⟨s1,s2⟩:=hp a b ca cb (by omega) (by omega)
 obtain ⟨z0,y0⟩:=near_bd hr (v:=u a+u b) (2*X) (by omega) (by omega) (by omega)
 rw [←s2] at z0 y0
 obtain ⟨p1,p2⟩:=hl (pl a b) b s1 cb (by omega) (by omega)
 obtain ⟨z1,y1⟩:=near_bd hr (v:=u (pl a b)-u b) (5*X) (by omega) (by omega) (by omega)
 rw [←p2] at z1 y1
 obtain ⟨q1,q2⟩:=hl (pl a b) (ls (pl a b) b) s1 p1 (by omega) (by omega)
 obtain ⟨z2,y2⟩:=near_bd hr (v:=u (pl a b)-u (ls (pl a b) b)) (14*X) (by omega) (by omega) (by omega)
 rw [←q2] at z2 y2
 obtain ⟨c1,c2⟩:=hl a (ls (pl a b) b) ca p1 (by omega) (by omega)
 obtain ⟨d1,d2⟩:=hl b (ls (pl a b) (ls (pl a b) b)) cb q1 (by omega) (by omega)
 have T:=two_sum hr (u a) (u b) (hR _ ca) (hR _ cb) (by omega) (by omega)
 rw [←s2,←p2,←q2,←c2,←d2] at T
 obtain ⟨z3,y3⟩:=near_bd hr (v:=u a-u (ls (pl a b) b)) (11*X) (by omega) (by omega) (by omega)
 obtain ⟨z4,y4⟩:=near_bd hr (v:=u b-u (ls (pl a b) (ls (pl a b) b))) (29*X) (by omega) (by omega) (by omega)
 rw [←c2] at z3 y3
 rw [←d2] at z4 y4
 obtain ⟨e1,e2⟩:=hp _ _ c1 d1 (by omega) (by omega)
 exact ⟨e1,e2.trans T,s1,s2⟩
theorem restN_val (a b:Nat) (ha:a<18446744073709551616) (hb:b<18446744073709551616) (ca:classOf (a:Int)<4) (cb:classOf (b:Int)<4) (B:Int) (hB:B<(rvi 9218868437227405311:Int)) (h0:128*((uV (a:Int)).natAbs:Int)≤B) (h1:128*((uV (b:Int)).natAbs:Int)≤B):
 classOf (restN a b:Int)<4∧uV (restN a b:Int)=uV (a:Int)+uV (b:Int)-uV (plusN a b:Int)∧classOf (plusN a b:Int)<4∧uV (plusN a b:Int)=rN (uV (a:Int)+uV (b:Int)):=by
 have h:=rest_gen (rN_near B hB) plusN lessN (fun n=>uV (n:Int)) (fun n=>n<18446744073709551616∧classOf (n:Int)<4)
  (fun a b ha hb k0 k1=>by obtain ⟨p,q⟩:=plusN_val a b ha.1 hb.1 ha.2 hb.2 B hB k0 k1;exact ⟨⟨plusN_lt a b,p⟩,q⟩)
  (fun a b ha hb k0 k1=>by obtain ⟨p,q⟩:=lessN_val a b ha.1 hb.1 ha.2 hb.2 B hB k0 k1;exact ⟨⟨lessN_lt a b,p⟩,q⟩)
  (fun a ha=>rp_uV _ ha.2) a b ⟨ha,ca⟩ ⟨hb,cb⟩ (max ((uV (a:Int)).natAbs:Int) ((uV (b:Int)).natAbs:Int)) (by show _≤uV (a:Int);omega) (by show uV (a:Int)≤_;omega) (by show _≤uV (b:Int);omega) (by show uV (b:Int)≤_;omega) (by omega)
 exact ⟨h.1.2,h.2.1,h.2.2.1.2,h.2.2.2⟩
def RetIx (w:World) (L:List Nat) (pr:Int→Bool) (e:Ending) (w':World):Prop:=
 ∃i:Int,e=.returned (.int .i64 i)∧(0≤i↔ ∃j,j<L.length∧pr (lb L j)=true)∧Below w.heap.size w w'
def LH (w:World) (gl gh:Nat):Prop:=w.cell? ⟨gl,0,none⟩=some (.int .u64 2805742567851819008)∧w.cell? ⟨gh,0,none⟩=some (.int .u64 6408622269748215808)
theorem LH.below {w w':World} {gl gh:Nat} (h:LH w gl gh) (hb:Below w.heap.size w w'):LH w' gl gh:=
 ⟨(hb.cell (World.block_lt_of_cell? _ _ h.1)).trans h.1,(hb.cell (World.block_lt_of_cell? _ _ h.2)).trans h.2⟩
end Go.Ulp
namespace Go.Proofs.YtfphmlmgjhebjaaGreatDoor
open Go.RowKit Go.Ulp
set_option maxHeartbeats 1000000
set_option maxRecDepth 100000
end Go.Proofs.YtfphmlmgjhebjaaGreatDoor
namespace Go.Ulp
open Go.RowKit
def hfK (D:Dy):Int:=(bl D.1.natAbs:Int)+D.2-1
theorem hfK_nrm (y e:Int) (h:y≠0):hfK (nrm y e)=(bl y.natAbs:Int)+e-1:=by
 obtain ⟨k,h1,h2⟩:=nrm_rep y e
 have h2:=h2 h
 have h3:y.natAbs=(nrm y e).1.natAbs*2^k:=by conv=>lhs;rw [h1]
                                             exact natAbs_mul_pw _ _
 have h4:0<(nrm y e).1.natAbs:=by
  rcases Nat.eq_zero_or_pos (nrm y e).1.natAbs with h|h
  ·rw [h] at h3;omega
  ·exact h
 unfold hfK
 rw [h3,bl_mul _ _ h4,h2]
 omega
def QW (tq ti:TypeId) (w:World) (g:Nat) (D:Dy) (A T:Nat) (X:Int) (n:Nat) (ao:Option Addr) (cap:Nat):Prop:=
 QL tq w g (zneg X) (.slice ao (zl X).length cap) (n:Int)∧QD ti w D A T (.agg #[.bool (zneg X),.slice ao (zl X).length cap,.int .i64 (n:Int)])
theorem QW.below {tq ti:TypeId} {w w':World} {g:Nat} {D:Dy} {A T:Nat} {X:Int} {n:Nat} {ao:Option Addr} {cap:Nat} (h:QW tq ti w g D A T X n ao cap) (hb:Below w.heap.size w w'):QW tq ti w' g D A T X n ao cap:=⟨h.1.below hb,h.2.below hb⟩
theorem QW.made {tq ti:TypeId} {w:World} {D:Dy} {A T:Nat} {X:Int} {n:Nat} {ao:Option Addr} {cap:Nat} (h:QD ti w D A T (.agg #[.bool (zneg X),.slice ao (zl X).length cap,.int .i64 (n:Int)])):
 QW tq ti (w.alloc (.cells #[.bool (zneg X),.slice ao (zl X).length cap,.int .i64 (n:Int)] tq)) w.heap.size D A T X n ao cap:=⟨QL.made rfl,h.below (below_alloc _ _)⟩
theorem QW.cells {tq ti:TypeId} {w:World} {g:Nat} {D:Dy} {A T:Nat} {X:Int} {n:Nat} {ao:Option Addr} {cap:Nat} (h:QW tq ti w g D A T X n ao cap):
 w.cell? ⟨g,0,none⟩=some (.bool (zneg X))∧w.cell? ⟨g,1,none⟩=some (.slice ao (zl X).length cap)∧w.cell? ⟨g,2,none⟩=some (.int .i64 (n:Int)):=⟨h.1.1.1,h.1.1.2.1,h.1.2.1⟩
theorem QW.stored {tq ti:TypeId} {w0 wn:World} {g:Nat} {D:Dy} {A T:Nat} {X:Int} {n:Nat} {ao:Option Addr} {cap:Nat} {b:Bool} {v:Value} {k:Int} (hne:tq≠ti) (hb:Below w0.heap.size w0 wn) (hg:w0.heap.size≤g) (z:QL tq wn g b v k) (h:QD ti wn D A T (.agg #[.bool (zneg X),.slice ao (zl X).length cap,.int .i64 (n:Int)])):
 Below w0.heap.size w0 (((wn.setCell ⟨g,0,none⟩ (.bool (zneg X))).setCell ⟨g,1,none⟩ (.slice ao (zl X).length cap)).setCell ⟨g,2,none⟩ (.int .i64 (n:Int)))∧QW tq ti (((wn.setCell ⟨g,0,none⟩ (.bool (zneg X))).setCell ⟨g,1,none⟩ (.slice ao (zl X).length cap)).setCell ⟨g,2,none⟩ (.int .i64 (n:Int))) g D A T X n ao cap:=by
 obtain ⟨x,m,a,c,h1,h2,h3,h4,h5⟩:=h
 refine ⟨Go.Ulp.Below.put3 hb hg _ _ _,z.put _ _ _,⟨x,m,a,c,h1,?_,h3,h4,h5⟩⟩
 exact h2.set3Q z hne _ _ _
theorem wp_wld {P:Program} {c:Code} {Q:Exit→Act→World→Prop} {a:Act} {w0:World} (F:World→Prop) (hF:F w0) (h: ∀w,F w→Code.wp P c Q a w):Code.wp P c Q a w0:=h w0 hF
theorem fv_small_p (x:Int) (h0:0≤x) (h1:x<18446744073709551616):(limbs (fv x).1.natAbs).length≤2∧ -1074≤(fv x).2∧(fv x).2≤1024∧(fv x).1.natAbs<2^53:=by
 obtain ⟨-,h2,h3,h4⟩:=fv_bd x h0 h1
 exact ⟨(limbs_le_bits _ 2).2 (Nat.lt_of_lt_of_le h2 (Nat.pow_le_pow_right (by omega) (by omega))),h3,h4,h2⟩
def badA (L:List Nat) (i:Nat):Bool:=decide (classOf (lb L i)=1)||(decide (0<i)&&decide ((fv (lb L i)).2≤hfK (fv (lb L (i-1)))))
def badTo (L:List Nat):Nat→Bool
 |0=>false
 |i+1=>badTo L i||badA L i
theorem badTo_mono (L:List Nat) (i:Nat) (h:badTo L i=true): ∀j,i≤j→badTo L j=true:=by
 intro j hj
 obtain ⟨k,rfl⟩: ∃k,j=i+k:=⟨j-i,by omega⟩
 clear hj
 induction k with
 |zero=>exact h
 |succ k ih=>show (badTo L (i+k)||badA L (i+k))=true;rw [ih];rfl
def noTo (L:List Nat):Nat→Bool
 |0=>false
 |i+1=>noTo L i||!hasVal (lb L i)
theorem noTo_iff (L:List Nat): ∀n,noTo L n=true↔ ∃j,j<n∧hasVal (lb L j)=false
 |0=>⟨fun h=>(by cases h),fun ⟨j,h,_⟩=>absurd h (Nat.not_lt_zero j)⟩
 |n+1=>by
  show (noTo L n||!hasVal (lb L n))=true↔_
  rw [Bool.or_eq_true,noTo_iff L n]
  constructor
  ·rintro (⟨j,h1,h2⟩|h)
   ·exact ⟨j,by omega,h2⟩
   ·exact ⟨n,by omega,by simpa using h⟩
  ·rintro ⟨j,h1,h2⟩
   by_cases e:j=n
   ·subst e;exact .inr (by rw [h2];rfl)
   ·exact .inl ⟨j,by omega,h2⟩
def prE (L:List Nat):Int:=if 60<L.length then 2 else if noTo L L.length=true then 4 else if badTo L L.length=true then 3 else 0
end Go.Ulp
namespace Go.Proofs.YtfphmlmgjhebjaaGreatDoor
open Go.RowKit Go.Ulp
set_option maxHeartbeats 2000000
set_option maxRecDepth 100000
theorem chk1_any (x:Int) (h0:0≤x) (h1:x<18446744073709551616) (w:World):
 Calls Tryz.prog 147 #[.int .u64 x] w fun e w'=>e=.returned (.bool (!hasVal x))∧w=w':=by
 have HV:=hid (fun w=>hasValue_any x h0 h1 w)
 generalize hasVal x=b at *
 go_enter Tryz.func147,Tryz.ntmps147
 go_wp2_with (go_at_call 47;(with_reducible refine (HV.out _).mono ?_);rintro en w1 ⟨rfl,rfl⟩)
 go_ret
 exact ⟨rfl,rfl⟩
theorem indexG_any (ao:Option Addr) (cap:Nat) (L:List Nat) (w:World) (h:Ns .u64 w ao cap L) (hL: ∀j,lb L j<18446744073709551616):
 Calls Tryz.prog 212 #[.slice ao L.length cap,.func (.func 147) #[] #[]] w (RetIx w L (fun x=>!hasVal x)):=by
 obtain ⟨h1,h2,h3⟩:=h
 unfold maxLen at h2
 have TC:=hid (fun j w=>chk1_any (lb L j) (by unfold lb;omega) (hL j) w)
 clear hL
 go_enter Tryz.func212,Tryz.ntmps212
 go_wp2_with fail
 go_loopw [8] (fun i wr=> ∃i0:Nat,i=.int .i64 (i0:Int)∧i0≤L.length∧(∀j,j<i0→hasVal (lb L j)=true)∧Below w.heap.size w wr) (fun i _=>(L.length-(intOf i).toNat))
 case atStart=>exact ⟨0,rfl,by omega,fun j hj=>by omega,Below.refl _ _⟩
 case round=>
  obtain ⟨j,rfl,hi1,hdr,hb⟩:=hrel
  have HD:=hid hdr
  clear hdr
  by_cases hi:(j:Int)<(L.length:Int)
  ·obtain ⟨b0,o0,rfl,hc0⟩:=h3 (by omega)
   have k0:=(hb.cell (p:=⟨b0,o0+j,none⟩) (World.block_lt_of_cell? _ _ (hc0 j (by omega)))).trans (hc0 j (by omega))
   clear hc0 h3
   have TJ:=hid (TC.out j)
   cases hv:hasVal (lb L j)
   ·have HV:=hid hv
    rw [hv] at TJ
    clear hv
    go_wp2_with (go_at_call 147;(with_reducible refine (TJ.out _).mono ?_);rintro en w1 ⟨rfl,rfl⟩)
    go_ret
    exact ⟨j,rfl,⟨fun _=>⟨j,by omega,by show (!hasVal (lb L j))=true;rw [HV.out];rfl⟩,fun _=>by omega⟩,by (repeat' first|(with_reducible first|assumption|apply bR|apply bA|apply bN|apply bD|apply bL|apply bS)|refine bT ?_ (by assumption)|go_size)⟩
   ·have HV:=hid hv
    rw [hv] at TJ
    clear hv
    go_wp2_with (go_at_call 147;(with_reducible refine (TJ.out _).mono ?_);rintro en w1 ⟨rfl,rfl⟩)
    go_roundw
    case rel=>exact ⟨j+1,by go_num,by omega,fun i hi=>by
     by_cases e:i=j
     ·rw [e];exact HV.out
     ·exact HD.out i (by omega),by (repeat' first|(with_reducible first|assumption|apply bR|apply bA|apply bN|apply bD|apply bL|apply bS)|refine bT ?_ (by assumption)|go_size)⟩
    case measure=>simp [intOf];omega
  ·go_wp2_with fail
   go_ret
   refine ⟨-1,rfl,⟨fun h=>by omega,fun ⟨i,hi2,hp⟩=>?_⟩,by (repeat' first|(with_reducible first|assumption|apply bR|apply bA|apply bN|apply bD|apply bL|apply bS)|refine bT ?_ (by assumption)|go_size)⟩
   have h9:=HD.out i (by omega)
   have hp2:(!hasVal (lb L i))=true:=hp
   rw [h9] at hp2;cases hp2
theorem containsG_any (ao:Option Addr) (cap:Nat) (L:List Nat) (w:World) (h:Ns .u64 w ao cap L) (hL: ∀j,lb L j<18446744073709551616):
 Calls Tryz.prog 146 #[.slice ao L.length cap,.func (.func 147) #[] #[]] w fun e w'=>e=.returned (.bool (noTo L L.length))∧Below w.heap.size w w':=by
 have IX:=hid (fun w h=>indexG_any ao cap L w h hL)
 have H:=hid h
 have hcap:=h.1
 have hcap2:=h.2.1
 have HN:=hid (noTo_iff L L.length)
 generalize noTo L L.length=nb at *
 clear h
 go_enter Tryz.func146,Tryz.ntmps146
 go_wp2_with (go_at_call 212;(with_reducible refine (IX.out _ H.out).mono ?_);rintro en w1 ⟨i,rfl,hi,hb⟩;have HI:=hid hi;clear hi)
 go_ret
 refine ⟨ret_bool ?_,hb⟩
 rw [Bool.eq_iff_iff,decide_eq_true_eq,HI.out,HN.out]
 exact ⟨fun ⟨j,h1,h2⟩=>⟨j,h1,by have h3:(!hasVal (lb L j))=true:=h2;cases hh:hasVal (lb L j);rfl;rw [hh] at h3;cases h3⟩,fun ⟨j,h1,h2⟩=>⟨j,h1,by show (!hasVal (lb L j))=true;rw [h2];rfl⟩⟩
theorem growCheck_any (ao:Option Addr) (cap:Nat) (L:List Nat) (w:World) (h:Ns .u64 w ao cap L) (hL: ∀j,lb L j<18446744073709551616) (hT:Tab 1 w):
 Calls Tryz.prog 80 #[.slice ao L.length cap] w fun e w'=>e=.returned (.int .i64 (prE L))∧Below w.heap.size w w':=by
 have CF:=hid (fun w h=>containsG_any ao cap L w h hL)
 have HN:=hid h
 have hcap:=h.1
 have hcap2:=h.2.1
 unfold maxLen at hcap2
 have HP:=hid (show prE L=if 60<L.length then 2 else if noTo L L.length=true then 4 else if badTo L L.length=true then 3 else 0 from rfl)
 have BS:=hid (show ∀i,badTo L (i+1)=(badTo L i||badA L i) from fun _=>rfl)
 have BA:=hid (show ∀i,badA L i=(decide (classOf (lb L i)=1)||(decide (0<i)&&decide ((fv (lb L i)).2≤hfK (fv (lb L (i-1)))))) from fun _=>rfl)
 have BM:=hid (fun i h=>badTo_mono L i h L.length)
 have CL:=hid (fun j w=>class_any (lb L j) (lb_nonneg _ _) (hL j) w)
 have VA:=hid (fun j w t=>value_any (lb L j) (lb_nonneg _ _) (hL j) w t)
 have FS:=hid (fun j=>fv_small_p (lb L j) (lb_nonneg _ _) (hL j))
 have LN:=hid (fun (D:Dy) (hd:(limbs D.1.natAbs).length≤2) a c w h=>natLen_any a c D.1.natAbs w h (by omega))
 have HT:=hid hT
 obtain ⟨E,hE⟩: ∃E,E=prE L:=⟨_,rfl⟩
 rw [←hE] at HP ⊢
 clear h hL hT hE
 by_cases hl:60<L.length
 ·have HE:=hid (show E=2 by rw [HP.out,if_pos hl])
  have hl2:60<(L.length:Int):=by omega
  clear HP hl BS BA BM
  go_enter Tryz.func80,Tryz.ntmps80
  go_wp2_with fail
  go_ret
  exact ⟨by rw [HE.out];rfl,Below.refl _ _⟩
 ·have hl2: ¬60<(L.length:Int):=by omega
  have HP2:=hid (show E=if noTo L L.length=true then 4 else if badTo L L.length=true then 3 else 0 by rw [HP.out,if_neg hl])
  clear HP
  cases hno:noTo L L.length
  ·have HP3:=hid (show E=if badTo L L.length=true then 3 else 0 by rw [HP2.out,hno];rfl)
   rw [hno] at CF
   clear HP2 hno
   go_enter Tryz.func80,Tryz.ntmps80
   go_upto_region 5 with (go_at_call 146;(with_reducible refine (CF.out _ HN.out).mono ?_);rintro en w1 ⟨rfl,hb1⟩)
   go_wp2_with fail
   go_loopw [3,4,5,13] (fun s3 s4 s5 s13 wr=> ∃i:Nat,s13=.int .i64 (i:Int)∧i≤L.length∧badTo L i=false∧Below w.heap.size w wr) (fun _ _ _ i _=>(L.length-(intOf i).toNat))
   case atStart=>exact ⟨0,rfl,by omega,rfl,hb1⟩
   case round=>
    obtain ⟨i,rfl,hi,hbd,yr⟩:=hrel
    have HBD:=hid hbd
    clear hbd hb1
    by_cases hi2:(i:Int)<(L.length:Int)
    ·obtain ⟨b0,o0,rfl,hc0⟩:=HN.out.2.2 (by omega)
     have HC0:=hid hc0
     have k0:=(yr.cell (p:=⟨b0,o0+i,none⟩) (World.block_lt_of_cell? _ _ (hc0 i (by omega)))).trans (hc0 i (by omega))
     have C0:=hid (CL.out i)
     have V0:=hid (VA.out i)
     have F0:=FS.out i
     have BS0:=hid (BS.out i)
     have BA0:=hid (BA.out i)
     have BM0:=hid (fun h=>BM.out (i+1) h (by omega))
     obtain ⟨x,hx⟩: ∃x,x=lb L i:=⟨_,rfl⟩
     rw [←hx] at k0 C0 V0 F0 BA0
     clear hx hc0
     by_cases h1:classOf x=1
     ·have HE:=hid (show E=3 by
       rw [HP3.out,BM0.out (by rw [BS0.out,BA0.out,decide_eq_true h1];simp)];rfl)
      rw [h1] at C0
      clear h1 BA0 BS0 BM0 HP3 BS BA BM
      go_wp2_with (go_at_call 33;(with_reducible refine (C0.out _).mono ?_);rintro en w2 ⟨rfl,rfl⟩)
      go_ret
      exact ⟨by rw [HE.out];rfl,yr⟩
     ·have BA1:=hid (show badA L i=(decide (0<i)&&decide ((fv x).2≤hfK (fv (lb L (i-1))))) by rw [BA0.out,decide_eq_false h1,Bool.false_or])
      obtain ⟨c,hc⟩: ∃c,c=classOf x:=⟨_,rfl⟩
      rw [←hc] at C0 h1
      clear hc BA0
      by_cases h0:i=0
      ·have HB2:=hid (show badTo L (i+1)=false by rw [BS0.out,HBD.out,BA1.out,h0];rfl)
       have hz1:((i:Int)==0)=true:=by rw [h0];rfl
       clear BA1 BS0 BM0 h0
       go_wp2_with (go_at_call 33;(with_reducible refine (C0.out _).mono ?_);rintro en w2 ⟨rfl,rfl⟩)
       go_roundw
       case rel=>exact ⟨i+1,by go_num,by omega,HB2.out,yr⟩
       case measure=>first|(simp [intOf];done)|(simp [intOf];omega)
      ·obtain ⟨p,hp⟩: ∃p,i=p+1:=⟨i-1,by omega⟩
       have BA2:=hid (show badA L i=decide ((fv x).2≤hfK (fv (lb L p))) by rw [BA1.out,decide_eq_true (show 0<i by omega),Bool.true_and,show i-1=p by omega])
       have k1:=(yr.cell (p:=⟨b0,o0+p,none⟩) (World.block_lt_of_cell? _ _ (HC0.out p (by omega)))).trans (HC0.out p (by omega))
       have V1:=hid (VA.out p)
       have F1:=FS.out p
       obtain ⟨y,hy⟩: ∃y,y=lb L p:=⟨_,rfl⟩
       rw [←hy] at k1 V1 F1 BA2
       have hp1:(i:Int)-1=(p:Int):=by omega
       have hp3:((i:Int)==0)=false:=beq_eq_false_iff_ne.2 (by omega)
       have hwp:IntKind.i64.wrap (p:Int)=(p:Int):=IntWalk.i64_in _ (by omega)
       have hKy:hfK (fv y)=(bl (fv y).1.natAbs:Int)+(fv y).2-1:=rfl
       have LN1:=hid (LN.out (fv y) F1.1)
       clear hy BA1 CL VA FS BS BA BM LN HC0 hp h0
       go_upto_region 12 with (first
        |(go_at_call 33;(with_reducible refine (C0.out _).mono ?_);rintro en w2 ⟨rfl,rfl⟩)
        |(go_at_call 96;(with_reducible refine (V1.out _ (HT.out.below yr)).mono ?_);rintro en w3 ⟨v5,rfl,⟨a5,c5,rfl,hN5⟩,hb3⟩))
       refine wp_wld (fun WW=>Below w.heap.size w WW∧QL 67 WW w3.heap.size (decide ((fv y).1<0)) (.slice a5 (limbs (fv y).1.natAbs).length c5) (fv y).2∧Ns .u32 WW a5 c5 (limbs (fv y).1.natAbs)) ⟨below_trans (below_trans yr hb3) (below_alloc _ _),QL.made rfl,hN5.below (below_alloc _ _)⟩ ?_
       intro W1 ⟨y1,q5,n5⟩
       obtain ⟨g5,hg5⟩: ∃g,g=w3.heap.size:=⟨_,rfl⟩
       rw [←hg5] at q5 ⊢
       clear hg5 hN5 hb3 V1 yr k0 k1
       obtain ⟨bd,hbd⟩: ∃b,decide ((fv x).2<(bl (fv y).1.natAbs:Int)+(fv y).2)=b:=⟨_,rfl⟩
       have HA:=hid (show badA L i=bd by rw [BA2.out,←hbd,decide_eq_decide,hKy];omega)
       have hbl:=(bl_le (fv y).1.natAbs 53).2 F1.2.2.2
       obtain ⟨-,f1,f2,-⟩:=F1
       obtain ⟨-,f3,f4,-⟩:=F0
       obtain ⟨DX,hDX⟩: ∃D,D=fv x:=⟨_,rfl⟩
       rw [←hDX] at V0 hbd f3 f4
       obtain ⟨M,hM⟩: ∃M,M=(fv y).1.natAbs:=⟨_,rfl⟩
       rw [←hM] at LN1 hbl q5 n5 hbd ⊢
       obtain ⟨b,hb9⟩: ∃b,b=bl M:=⟨_,rfl⟩
       rw [←hb9] at LN1 hbl hbd
       obtain ⟨Y,hY⟩: ∃Y,Y=(fv y).2:=⟨_,rfl⟩
       rw [←hY] at q5 hbd f1 f2 ⊢
       obtain ⟨ng,hng⟩: ∃Y,Y=decide ((fv y).1<0):=⟨_,rfl⟩
       rw [←hng] at q5 ⊢
       have hw1:IntKind.i64.wrap ((b:Int)+Y)=(b:Int)+Y:=IntWalk.i64_in _ (by omega)
       have HBD2:=hid hbd
       have HW1:=hid hw1
       clear hDX hM hb9 hY hng hKy BA2 hbd hw1 f1 f2 f3 f4
       have hfl: ∀(b:Bool) (s:Value) (e:Int) (w:World),(Instr.field 67 (.agg #[.bool b,s,.int .i64 e]) 2).run Tryz.prog w=.ok (.int .i64 e) w:=fun _ _ _ _=>rfl
       refine wp_region_grow 10 [29,30,31,32,33,34,35,36,37,38] [Fact.is (.pointer (some ⟨g5,1,none⟩)),Fact.is (.slice a5 (limbs M).length c5),Fact.is (.int .i64 (b:Int)),Fact.is (.pointer (some ⟨g5,2,none⟩)),Fact.is (.int .i64 Y),Fact.is (.int .i64 ((b:Int)+Y)),Fact.is (.int .u64 x),Fact.vd DX,Fact.is (.int .i64 DX.2),Fact.is (.bool bd)] (by kernel_rfl) (by kernel_rfl) ⟨?o0,?o1,?o2,?o3,?o4,?o5,?o6,?o7,?o8,?o9,trivial⟩ ?after
       case o0=>(refine oQ rfl ?_;intro ρ w1 R hcon hfn hρ hb hp hR;have e5:ρ (.tmp 5)=.pointer (some ⟨g5,0,none⟩):=hρ.tmp 5 rfl;clear hρ hp;unfold OpRun;go_simp;exact hR _ _ (Below.refl _ _) rfl)
       case o1=>(refine oQ rfl ?_;intro ρ w1 R hcon hfn hρ hb hp hR;have e29:ρ (.tmp 29)=_:=hp 0 29 rfl rfl;obtain ⟨⟨j0,j1,-⟩,j2,-⟩:=q5.below hb;clear hρ hp;unfold OpRun;go_simp;exact hR _ _ (Below.refl _ _) rfl)
       case o2=>(refine oQ rfl ?_;intro ρ w1 R hcon hfn hρ hb hp hR;have e30:ρ (.tmp 30)=_:=hp 1 30 rfl rfl;clear hρ hp;unfold OpRun;go_simp;(refine (LN1.out _ _ _ (n5.below hb)).mono ?_;rintro e wn ⟨rfl,rfl⟩;exact ⟨_,rfl,hR _ _ (Below.refl _ _) rfl⟩))
       case o3=>(refine oQ rfl ?_;intro ρ w1 R hcon hfn hρ hb hp hR;have e5:ρ (.tmp 5)=.pointer (some ⟨g5,0,none⟩):=hρ.tmp 5 rfl;clear hρ hp;unfold OpRun;go_simp;exact hR _ _ (Below.refl _ _) rfl)
       case o4=>(refine oQ rfl ?_;intro ρ w1 R hcon hfn hρ hb hp hR;have e32:ρ (.tmp 32)=_:=hp 3 32 rfl rfl;obtain ⟨⟨j0,j1,-⟩,j2,-⟩:=q5.below hb;clear hρ hp;unfold OpRun;go_simp;exact hR _ _ (Below.refl _ _) rfl)
       case o5=>(refine oQ rfl ?_;intro ρ w1 R hcon hfn hρ hb hp hR;have e31:ρ (.tmp 31)=_:=hp 2 31 rfl rfl;have e33:ρ (.tmp 33)=_:=hp 4 33 rfl rfl;have hw1:=HW1.out;clear hρ hp;unfold OpRun;go_simp;exact hR _ _ (Below.refl _ _) rfl)
       case o6=>(refine oQ rfl ?_;intro ρ w1 R hcon hfn hρ hb hp hR;have e4:ρ (.tmp 4)=.int .u64 x:=hρ.tmp 4 rfl;clear hρ hp;unfold OpRun;go_simp;exact hR _ _ (Below.refl _ _) rfl)
       case o7=>(refine oQ rfl ?_;intro ρ w1 R hcon hfn hρ hb hp hR;have e35:ρ (.tmp 35)=_:=hp 6 35 rfl rfl;clear hρ hp;unfold OpRun;go_simp;(refine (V0.out _ (HT.out.below (below_trans y1 hb))).mono ?_;rintro e wn ⟨v9,rfl,hv9,hbn⟩;exact ⟨_,rfl,hR _ _ hbn hv9⟩))
       case o8=>(refine oQ rfl ?_;intro ρ w1 R hcon hfn hρ hb hp hR;have f36:=hp 7 36 rfl rfl;obtain ⟨a9,c9,e9,-⟩:=f36;clear hρ hp;unfold OpRun;go_simp;exact hR _ _ (Below.refl _ _) rfl)
       case o9=>(refine oQ rfl ?_;intro ρ w1 R hcon hfn hρ hb hp hR;have e34:ρ (.tmp 34)=_:=hp 5 34 rfl rfl;have e37:ρ (.tmp 37)=_:=hp 8 37 rfl rfl;have hx9:=HBD2.out;clear hρ hp;unfold OpRun;go_simp;exact hR _ _ (Below.refl _ _) rfl)
       case after=>
        intro u wn hb hf
        have e38:u 38=_:=hf 9 38 (by omega) rfl
        clear hf
        simp only [putAll,Act.put,List.setIfInBounds_toArray,List.set_cons_zero,List.set_cons_succ,List.drop_succ_cons,List.drop_zero,List.drop_nil]
        rw [e38]
        have y2:=below_trans y1 hb
        clear hb
        cases bd
        ·have HB2:=hid (show badTo L (i+1)=false by rw [BS0.out,HBD.out,HA.out];rfl)
         clear HA BS0 BM0 HBD2
         go_wp2_with fail
         go_roundw
         case rel=>exact ⟨i+1,by go_num,by omega,HB2.out,y2⟩
         case measure=>first|(simp [intOf];done)|(simp [intOf];omega)
        ·have HE:=hid (show E=3 by
          rw [HP3.out,BM0.out (by rw [BS0.out,HA.out,Bool.or_true])];rfl)
         clear HA BS0 BM0 HBD2 HP3
         go_wp2_with fail
         go_ret
         exact ⟨by rw [HE.out];rfl,y2⟩
    ·have HE:=hid (show E=0 by
      rw [HP3.out,show L.length=i by omega,HBD.out];rfl)
     clear HP3 BS BA BM
     go_wp2_with fail
     go_ret
     exact ⟨by rw [HE.out];rfl,yr⟩
  ·have HE:=hid (show E=4 by rw [HP2.out,hno];rfl)
   rw [hno] at CF
   clear HP2 hno BS BA BM
   go_enter Tryz.func80,Tryz.ntmps80
   go_wp2_with (go_at_call 146;(with_reducible refine (CF.out _ HN.out).mono ?_);rintro en w1 ⟨rfl,hb1⟩)
   go_ret
   exact ⟨by rw [HE.out];rfl,hb1⟩
end Go.Proofs.YtfphmlmgjhebjaaGreatDoor
namespace Go.Ulp
open Go.RowKit
section
variable {P:Program} {w:World}
end
end Go.Ulp
namespace Go.Proofs.YtfphmlmgjhebjaaGreatDoor
open Go.RowKit Go.Ulp
set_option maxHeartbeats 1600000
set_option maxRecDepth 100000
theorem ei_u64:ElemInfo Tryz.prog 58 22 .u64 8:=ElemInfo.mk Tryz.underlying58 (by kernel_rfl)
end Go.Proofs.YtfphmlmgjhebjaaGreatDoor
