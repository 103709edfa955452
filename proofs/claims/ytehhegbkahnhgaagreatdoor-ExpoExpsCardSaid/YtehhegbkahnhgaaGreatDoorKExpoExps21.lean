/- ExpoExps: what the proof leans on, part 21 (Zt). -/
import Derived.Deep.DeepCutAuto
import Derived.Deep.CutBlock
import Derived.BigRegion
import Derived.Deep.RegionHeld3
import Derived.Test.YtehhegbkahnhgaaGreatDoorKExpoExps2
import Derived.Test.YtehhegbkahnhgaaGreatDoorKExpoExps4
import Derived.Test.YtehhegbkahnhgaaGreatDoorKExpoExps5
import Derived.Test.YtehhegbkahnhgaaGreatDoorKExpoExps8
set_option linter.unusedVariables false
set_option linter.unusedSimpArgs false
namespace Go.Ulp
open Go.RowKit
theorem wp_world' {P:Program} {c:Code} {Q:Exit→Act→World→Prop} {a:Act} {w0:World} (F:World→Prop) (hF:F w0) (h: ∀w,F w→Code.wp P c Q a w):Code.wp P c Q a w0:=h w0 hF
def RetZ2 (t:TypeId) (w:World) (x y:Int) (e:Ending) (w':World):Prop:=
 ∃ao cap bo cbp,e=.returned (.tuple #[.agg #[.bool (zneg x),.slice ao (zl x).length cap],.agg #[.bool (zneg y),.slice bo (zl y).length cbp]])∧Nz t w' ao cap (zl x)∧Nz t w' bo cbp (zl y)∧Below w.heap.size w w'
theorem zdiv_fin (x y q r:Int) (hy:y≠0) (h:(x.natAbs:Int)=q*(y.natAbs:Int)+r) (h0:0≤r) (h1:r<(y.natAbs:Int)):
 (¬(x<0∧0<r)→(if decide (x<0)=decide (y<0) then q else -q)=x/y∧r=x%y)∧((x<0∧0<r)→(if decide (x<0)=decide (y<0) then q+1 else -(q+1))=x/y∧(y.natAbs:Int)-r=x%y):=by
 have key: ∀Q R:Int,R+(y.natAbs:Int)*Q=x→0≤R→R<(y.natAbs:Int)→(if y<0 then -Q else Q)=x/y∧R=x%y:=by
  intro Q R e1 e2 e3
  have hp:0<(y.natAbs:Int):=by omega
  obtain ⟨f1,f2⟩:=(Int.ediv_emod_unique (a:=x) (b:=(y.natAbs:Int)) (r:=R) (q:=Q) hp).2 ⟨e1,e2,e3⟩
  by_cases hy0:y<0
  ·have:y= -(y.natAbs:Int):=by omega
   rw [if_pos hy0]
   conv=>rhs;rw [this]
   conv=>lhs;rhs;rw [this]
   rw [Int.ediv_neg,f1,Int.emod_neg,f2];exact ⟨rfl,rfl⟩
  ·have:y=(y.natAbs:Int):=by omega
   rw [if_neg hy0]
   conv=>rhs;rw [this]
   conv=>lhs;rhs;rw [this]
   rw [f1,f2];exact ⟨rfl,rfl⟩
 have hc:=Int.mul_comm q (y.natAbs:Int)
 by_cases hx:x<0
 ·constructor
  ·intro hn
   have hr:r=0:=by omega
   have:=key (-q) 0 (by rw [Int.mul_neg];omega) (by omega) (by omega)
   rw [hr]
   by_cases hy0:y<0<;>simp [hx,hy0] at this ⊢ <;>exact this
  ·intro hn
   have:=key (-(q+1)) ((y.natAbs:Int)-r) (by rw [Int.mul_neg,Int.mul_add];omega) (by omega) (by omega)
   by_cases hy0:y<0<;>simp [hx,hy0] at this ⊢ <;>omega
 ·constructor
  ·intro hn
   have:=key q r (by omega) h0 h1
   by_cases hy0:y<0<;>simp [hx,hy0] at this ⊢ <;>exact this
  ·intro hn;omega
theorem own_one (w:World) (k:IntKind) (e:TypeId) (d:Nat):Own w.heap.size e k (w.alloc (.cells #[.int k (d:Int)] e)) (.slice (some ⟨w.heap.size,0,none⟩) 1 1) [d]:=by
 unfold Own
 exact ⟨by simp [nums],.inr ⟨w.heap.size,1,#[.int k (d:Int)],rfl,Nat.le_refl _,heap_alloc_new w _,Nat.le_refl _,by unfold maxLen;omega,by simp,by simp [nums]⟩⟩
theorem zof_false (n:Nat):zof false n=(n:Int):=rfl
theorem zl_nat (n:Nat):zl (n:Int)=decs n:=by unfold zl;rw [Int.natAbs_natCast]
theorem zl_len_mul (Y mm n:Nat) (hY:(zl (Y:Int)).length≤n) (hm:mm<9223372036854775808):(zl ((Y*mm:Nat):Int)).length≤n+16:=by
 rw [zl_nat] at hY ⊢
 have h1:Y<10000^n:=(digs_len_le 10000 (by omega) Y n).1 hY
 refine (digs_len_le 10000 (by omega) _ _).2 ?_
 rw [Nat.pow_add]
 exact Nat.mul_lt_mul'' h1 (Nat.lt_trans hm (by decide))
theorem zneg_nat (n:Nat):zneg (n:Int)=false:=by unfold zneg;simp
theorem dval_cons (d:Nat) (L:List Nat):dval (d::L)=d+10000*dval L:=rfl
theorem dval_drop (L:List Nat) (k:Nat) (h:k<L.length):dval (L.drop k)=L.getD k 0+10000*dval (L.drop (k+1)):=val_drop _ _ _ h
theorem dval_drop_set (L:List Nat) (i d:Nat) (h:i<L.length):dval ((L.set i d).drop i)=d+10000*dval (L.drop (i+1)):=val_drop_set _ _ _ _ h
def DF (tz ti:TypeId) (gS gQ gR m:Nat) (w1:World) (l:List (Nat×Bool×Value)) (T:List Nat) (R:Int) (W:World):Prop:=
 KV tz W l∧ZL tz W gQ false (.slice (some ⟨gS,0,none⟩) m m)∧Own gS ti .i64 W (.slice (some ⟨gS,0,none⟩) m m) T∧RV tz ti gS W gR R∧Below w1.heap.size w1 W
def DO (gS gQ gR:Nat) (w1:World) (l:List (Nat×Bool×Value)):Prop:=(∀e∈l,e.1<gS)∧gS<gQ∧gQ<gR∧w1.heap.size≤gS
section
variable {tz ti:TypeId} {gS gQ gR m:Nat} {w1:World} {l:List (Nat×Bool×Value)} {T:List Nat} {R:Int} {W W':World}
theorem DF.below (h:DF tz ti gS gQ gR m w1 l T R W) (hb:Below W.heap.size W W'):DF tz ti gS gQ gR m w1 l T R W':=by
 obtain ⟨h1,h2,h3,h4,h5⟩:=h
 exact ⟨h1.below hb,h2.below hb,h3.kept hb,h4.below hb,below_trans h5 hb⟩
theorem DF.drew (h:DF tz ti gS gQ gR m w1 l T R W):DF tz ti gS gQ gR m w1 l T R W.drew:=h.below (Below.drew (Below.refl _ _))
theorem DF.drewN (h:DF tz ti gS gQ gR m w1 l T R W) (n:Nat):DF tz ti gS gQ gR m w1 l T R (W.drewN n):=h.below (below_drewN (Below.refl _ _) n)
theorem DF.alloc (h:DF tz ti gS gQ gR m w1 l T R W) (o:Obj):DF tz ti gS gQ gR m w1 l T R (W.alloc o):=h.below (below_alloc _ _)
theorem DF.set2 (ho:DO gS gQ gR w1 l) (hne:tz≠ti) (h:DF tz ti gS gQ gR m w1 l T R W) {b:Nat} (hs:ElemIs W b tz) (hb:gR<b) (u v:Value):DF tz ti gS gQ gR m w1 l T R ((W.setCell ⟨b,0,none⟩ u).setCell ⟨b,1,none⟩ v):=by
 obtain ⟨h1,h2,h3,h4,h5⟩:=h
 obtain ⟨o1,o2,o3,o4⟩:=ho
 exact ⟨h1.far2 (fun e he=>by have:=o1 e he;omega) _ _,(h2.far _ _ (by simp;omega)).far _ _ (by simp;omega),(h3.far _ (by simp;omega) _).far _ (by simp;omega) _,h4.set2 hs hne (by omega) _ _,(h5.setCell (by simp;omega) _).setCell (by simp;omega) _⟩
theorem DF.setR (ho:DO gS gQ gR w1 l) (hne:tz≠ti) (h:DF tz ti gS gQ gR m w1 l T R W) {y:Int} {ao:Option Addr} {cap:Nat} (hN:Nz ti W ao cap (zl y)) (hf: ∀p,ao=some p→p.block≠gS):DF tz ti gS gQ gR m w1 l T y ((W.setCell ⟨gR,0,none⟩ (.bool (zneg y))).setCell ⟨gR,1,none⟩ (.slice ao (zl y).length cap)):=by
 obtain ⟨h1,h2,h3,h4,h5⟩:=h
 obtain ⟨o1,o2,o3,o4⟩:=ho
 obtain ⟨_,_,h6,_⟩:=h4
 exact ⟨h1.far2 (fun e he=>by have:=o1 e he;omega) _ _,(h2.far _ _ (by simp;omega)).far _ _ (by simp;omega),(h3.far _ (by simp;omega) _).far _ (by simp;omega) _,RV.store h6 hN hne hf,(h5.setCell (by simp;omega) _).setCell (by simp;omega) _⟩
theorem DF.setq (ho:DO gS gQ gR w1 l) (h:DF tz ti gS gQ gR m w1 l T R W) (i d:Nat):DF tz ti gS gQ gR m w1 l (T.set i d) R (W.setCell ⟨gS,i,none⟩ (.int .i64 (d:Int))):=by
 obtain ⟨h1,h2,h3,h4,h5⟩:=h
 obtain ⟨o1,o2,o3,o4⟩:=ho
 exact ⟨h1.far _ _ (fun e he=>by have:=o1 e he;simp;omega),h2.far _ _ (by simp;omega),h3.set i d,h4.setf (by omega) _ _,h5.setCell (by simp;omega) _⟩
theorem RV.setR {f:Nat} {g:Nat} {x:Int} (h:RV tz ti f W g x) {b:Nat} (hs:ElemIs W b tz) (hne:tz≠ti) (hgb:g≠b) (u v:Value):RV tz ti f ((W.setCell ⟨b,0,none⟩ u).setCell ⟨b,1,none⟩ v) g x:=h.set2 hs hne hgb u v
theorem ElemIs.st2 {w:World} {b:Nat} {t:TypeId} (h:ElemIs w b t) (g:Nat) (u v:Value):ElemIs ((w.setCell ⟨g,0,none⟩ u).setCell ⟨g,1,none⟩ v) b t:=(h.setCell _ _).setCell _ _
theorem Nz.st2 {e t:TypeId} {w:World} {ao:Option Addr} {cap:Nat} {L:List Nat} (h:Nz e w ao cap L) {g:Nat} (hs:ElemIs w g t) (hne:t≠e) (u v:Value):Nz e ((w.setCell ⟨g,0,none⟩ u).setCell ⟨g,1,none⟩ v) ao cap L:=
 (h.setCell hs hne 0 u).setCell (hs.setCell _ _) hne 1 v
def ZV (tz ti:TypeId) (w:World) (g:Nat) (x:Int):Prop:= ∃ao cap,ZL tz w g (zneg x) (.slice ao (zl x).length cap)∧Nz ti w ao cap (zl x)
theorem RV.zv {f g:Nat} {x:Int} (h:RV tz ti f W g x):ZV tz ti W g x:=by obtain ⟨ao,cap,h1,h2,_⟩:=h;exact ⟨ao,cap,h1,h2⟩
theorem ZV.below {g:Nat} {x:Int} (h:ZV tz ti W g x) (hb:Below W.heap.size W W'):ZV tz ti W' g x:=by obtain ⟨ao,cap,h1,h2⟩:=h;exact ⟨ao,cap,h1.below hb,h2.below hb⟩
theorem ZV.set2 {g b:Nat} {x:Int} (h:ZV tz ti W g x) (hs:ElemIs W b tz) (hne:tz≠ti) (hgb:g≠b) (u v:Value):ZV tz ti ((W.setCell ⟨b,0,none⟩ u).setCell ⟨b,1,none⟩ v) g x:=by
 obtain ⟨ao,cap,h1,h2⟩:=h
 exact ⟨ao,cap,(h1.far _ _ hgb).far _ _ hgb,(h2.setCell hs hne 0 u).setCell (hs.setCell _ _) hne 1 v⟩
theorem ZV.store {g:Nat} {n:Bool} {v:Value} {y:Int} {ao:Option Addr} {cap:Nat} (h:ZL tz W g n v) (hN:Nz ti W ao cap (zl y)) (hne:tz≠ti):ZV tz ti ((W.setCell ⟨g,0,none⟩ (.bool (zneg y))).setCell ⟨g,1,none⟩ (.slice ao (zl y).length cap)) g y:=
 ⟨ao,cap,(h.set0 _).set1 _,(hN.setCell h.2.2.2.2 hne 0 _).setCell (h.2.2.2.2.setCell _ _) hne 1 _⟩
def DG (tz ti:TypeId) (gS gQ gR:Nat) (w1:World) (l:List (Nat×Bool×Value)) (q r:Int) (W:World):Prop:=
 KV tz W l∧ZV tz ti W gQ q∧ZV tz ti W gR r∧Below w1.heap.size w1 W
theorem DG.below {q r:Int} (h:DG tz ti gS gQ gR w1 l q r W) (hb:Below W.heap.size W W'):DG tz ti gS gQ gR w1 l q r W':=by
 obtain ⟨h1,h2,h3,h4⟩:=h
 exact ⟨h1.below hb,h2.below hb,h3.below hb,below_trans h4 hb⟩
theorem DG.setQ (ho:DO gS gQ gR w1 l) (hne:tz≠ti) {q r y:Int} (h:DG tz ti gS gQ gR w1 l q r W) {ao:Option Addr} {cap:Nat} (hN:Nz ti W ao cap (zl y)):DG tz ti gS gQ gR w1 l y r ((W.setCell ⟨gQ,0,none⟩ (.bool (zneg y))).setCell ⟨gQ,1,none⟩ (.slice ao (zl y).length cap)):=by
 obtain ⟨h1,h2,h3,h4⟩:=h
 obtain ⟨o1,o2,o3,o4⟩:=ho
 obtain ⟨_,_,h6,_⟩:=h2
 exact ⟨h1.far2 (fun e he=>by have:=o1 e he;omega) _ _,ZV.store h6 hN hne,h3.set2 h6.2.2.2.2 hne (by omega) _ _,(h4.setCell (by simp;omega) _).setCell (by simp;omega) _⟩
theorem DG.setR (ho:DO gS gQ gR w1 l) (hne:tz≠ti) {q r y:Int} (h:DG tz ti gS gQ gR w1 l q r W) {ao:Option Addr} {cap:Nat} (hN:Nz ti W ao cap (zl y)):DG tz ti gS gQ gR w1 l q y ((W.setCell ⟨gR,0,none⟩ (.bool (zneg y))).setCell ⟨gR,1,none⟩ (.slice ao (zl y).length cap)):=by
 obtain ⟨h1,h2,h3,h4⟩:=h
 obtain ⟨o1,o2,o3,o4⟩:=ho
 obtain ⟨_,_,h6,_⟩:=h3
 exact ⟨h1.far2 (fun e he=>by have:=o1 e he;omega) _ _,h2.set2 h6.2.2.2.2 hne (by omega) _ _,ZV.store h6 hN hne,(h4.setCell (by simp;omega) _).setCell (by simp;omega) _⟩
theorem DF.dg {y:Int} (ho:DO gS gQ gR w1 l) (hne:tz≠ti) (h:DF tz ti gS gQ gR m w1 l T R W) {ao:Option Addr} {cap:Nat} (hN:Nz ti W ao cap (zl y)):DG tz ti gS gQ gR w1 l y R ((W.setCell ⟨gQ,0,none⟩ (.bool (zneg y))).setCell ⟨gQ,1,none⟩ (.slice ao (zl y).length cap)):=by
 obtain ⟨h1,h2,h3,h4,h5⟩:=h
 obtain ⟨o1,o2,o3,o4⟩:=ho
 exact ⟨h1.far2 (fun e he=>by have:=o1 e he;omega) _ _,ZV.store h2 hN hne,h4.zv.set2 h2.2.2.2.2 hne (by omega) _ _,(h5.setCell (by simp;omega) _).setCell (by simp;omega) _⟩
end
end Go.Ulp
namespace Go.Proofs.YtehhegbkahnhgaaGreatDoor
open Go.RowKit Go.Ulp
set_option maxHeartbeats 20000000
set_option maxRecDepth 100000
theorem size_z (a0 a1:Option Addr) (c0 c1:Nat) (x y:Int) (w:World) (h0:Nz 3 w a0 c0 (zl x)) (h1:Nz 3 w a1 c1 (zl y)):
 Calls Tryz.prog 113 #[.slice a0 (zl x).length c0,.slice a1 (zl y).length c1] w fun e w'=>e=.returned (.int .i64 (cmpI (x.natAbs:Int) (y.natAbs:Int)))∧ ∃nq,w'=w.drewN nq:=
 size_any a0 a1 c0 c1 x.natAbs y.natAbs w h0.1 h1.1
theorem run_zfield (b:Bool) (a:Option Addr) (k c:Nat) (w:World):(Instr.field 47 (.agg #[.bool b,.slice a k c]) 1).run Tryz.prog w=.ok (.slice a k c) w:=by kernel_rfl
theorem zdiv_any (a0 a1:Option Addr) (c0 c1:Nat) (x y:Int) (w:World) (h0:Nz 3 w a0 c0 (zl x)) (h1:Nz 3 w a1 c1 (zl y)) (hl0:(zl x).length≤4000000000) (hl1:(zl y).length≤1000000000) (hy:y≠0):
 Calls Tryz.prog 97 #[.agg #[.bool (zneg x),.slice a0 (zl x).length c0],.agg #[.bool (zneg y),.slice a1 (zl y).length c1]] w fun e w'=>RetZ2 3 w (x/y) (x%y) e w':=by
 have hne:(47:TypeId)≠3:=by decide
 obtain ⟨Y,hY⟩: ∃Y:Nat,Y=y.natAbs:=⟨_,rfl⟩
 have hYp:0<Y:=by omega
 have hlY:(zl (Y:Int)).length=(zl y).length:=by unfold zl;rw [Int.natAbs_natCast,hY]
 have htop:(zl (Y:Int)).getD ((zl (Y:Int)).length-1) 0≠0:=by
  rw [zl_nat]
  rcases (trim_iff (decs Y)).1 (decs_trim Y) with h|h
  ·exact absurd ((decs_nil Y).1 (List.length_eq_zero_iff.1 h)) (by omega)
  ·exact h
 have hlp:0<(zl (Y:Int)).length:=by
  rw [zl_nat];exact (digs_len_pos 10000 (by omega) Y).2 hYp
 obtain ⟨m,hm⟩: ∃m,m=(zl x).length:=⟨_,rfl⟩
 obtain ⟨n,hn⟩: ∃n,n=(zl (Y:Int)).length:=⟨_,rfl⟩
 rw [←hn] at htop hlp
 have hn1:n≤1000000000:=by omega
 have hzabs:=zabs_any a1 c1 y
 rw [←hY] at hzabs
 have HY:=hid hY
 have HLY:=hid hlY
 have HM:=hid hm
 have HN:=hid hn
 have Hzabs:=hid hzabs
 rw [←hm] at hl0
 clear hlY hY hy hzabs hn
 rw [←hm]
 clear hm
 go_enter Tryz.func97,Tryz.ntmps97
 go_wp2_with fail
 have zA0:ZL 47 ((((w.alloc (.cells #[.bool (zneg x),.slice a0 m c0] 47)).alloc (.cells #[.bool (zneg y),.slice a1 (zl y).length c1] 47)).alloc (.cells #[.bool false,.slice none 0 0] 47)).alloc (.cells #[.bool false,.slice none 0 0] 47)) w.heap.size (zneg x) (.slice a0 m c0):=(((ZL.made rfl).alloc _).alloc _).alloc _
 have zY0:ZL 47 ((((w.alloc (.cells #[.bool (zneg x),.slice a0 m c0] 47)).alloc (.cells #[.bool (zneg y),.slice a1 (zl y).length c1] 47)).alloc (.cells #[.bool false,.slice none 0 0] 47)).alloc (.cells #[.bool false,.slice none 0 0] 47)) (w.heap.size+1) (zneg y) (.slice a1 (zl y).length c1):=((ZL.made (by first|omega|(simp;done)|(simp;omega))).alloc _).alloc _
 have z40:ZL 47 ((((w.alloc (.cells #[.bool (zneg x),.slice a0 m c0] 47)).alloc (.cells #[.bool (zneg y),.slice a1 (zl y).length c1] 47)).alloc (.cells #[.bool false,.slice none 0 0] 47)).alloc (.cells #[.bool false,.slice none 0 0] 47)) (w.heap.size+1+1) false (.slice none 0 0):=(ZL.made (by first|omega|(simp;done)|(simp;omega))).alloc _
 have z50:ZL 47 ((((w.alloc (.cells #[.bool (zneg x),.slice a0 m c0] 47)).alloc (.cells #[.bool (zneg y),.slice a1 (zl y).length c1] 47)).alloc (.cells #[.bool false,.slice none 0 0] 47)).alloc (.cells #[.bool false,.slice none 0 0] 47)) (w.heap.size+1+1+1) false (.slice none 0 0):=ZL.made (by first|omega|(simp;done)|(simp;omega))
 refine (Hzabs.out _ (h1.below (by (repeat' first|(with_reducible first|assumption|apply bR|apply bA|apply bN|apply bD|apply bL|apply bS)|refine bT ?_ (by assumption)|go_size)))).mono ?_
 rintro e w1 ⟨b0,d0,rfl,hB,hb1⟩
 have yb1:Below w.heap.size w w1:=below_trans (by (repeat' first|(with_reducible first|assumption|apply bR|apply bA|apply bN|apply bD|apply bL|apply bS)|refine bT ?_ (by assumption)|go_size)) hb1
 have h0':=h0.below yb1
 have hlt:=(z50.below hb1).lt
 have hltA:w.heap.size<w1.heap.size:=by omega
 have hltY:w.heap.size+1<w1.heap.size:=by omega
 have K1:KV 47 w1 [(w.heap.size,zneg x,.slice a0 m c0),(w.heap.size+1,zneg y,.slice a1 (zl y).length c1),(w.heap.size+1+1,false,.slice none 0 0),(w.heap.size+1+1+1,false,.slice none 0 0)]:=by
  intro e he
  simp only [List.mem_cons,List.not_mem_nil,or_false] at he
  rcases he with rfl|rfl|rfl|rfl
  ·exact zA0.below hb1
  ·exact zY0.below hb1
  ·exact z40.below hb1
  ·exact z50.below hb1
 have kA:=K1 _ (List.mem_cons_self)
 obtain ⟨kA0,kA1,-,-,-⟩:=id kA
 rw [←HN.out]
 clear zA0 zY0 z40 z50 hb1 h0 h1 kA
 obtain ⟨d1,hd1⟩: ∃z,z=(zl (Y:Int)).getD (n-1) 0:=⟨_,rfl⟩
 obtain ⟨d2,hd2⟩: ∃z,z=(zl (Y:Int)).getD (n-2) 0:=⟨_,rfl⟩
 have bd1:d1<10000:=by rw [hd1];exact lb_dec _ (zl_dec _) _
 have bd2:d2<10000:=by rw [hd2];exact lb_dec _ (zl_dec _) _
 have hp1:0<d1:=by rw [hd1];omega
 obtain ⟨bb,ob,rfl,hcB⟩:=hB.1.2.2 (by rw [←HN.out];exact hlp)
 have kB1:=hcB (n-1) (by rw [←HN.out];omega)
 have kB2:=fun h:1<n=>hcB (n-2) (by rw [←HN.out];omega)
 unfold lb at kB1 kB2
 rw [←hd1] at kB1
 rw [←hd2] at kB2
 have e1:(n:Int)-1=((n-1:Nat):Int):=by omega
 have e2:=fun h:1<n=>(show (n:Int)-2=((n-2:Nat):Int) by omega)
 have HB:=hid hB
 have HK1:=hid K1
 clear hcB htop hd1 hd2 hB K1
 go_upto_region 3 with (at_make;refine wpList_zeros ei_int (by omega) rfl _ _ rfl m _ _ _ _ rfl rfl (by omega) (by omega) (by omega) ?_;intro w2 hown hb2;have yb2:=below_trans (below_alloc w1 _) hb2;have kB1':=(yb2.cell (p:=⟨bb,ob+(n-1),none⟩) (World.block_lt_of_cell? w1 _ kB1)).trans kB1;have kB2':=fun h:1<n=>(yb2.cell (p:=⟨bb,ob+(n-2),none⟩) (World.block_lt_of_cell? w1 _ (kB2 h))).trans (kB2 h))
 have hsz:(w1.alloc (.cells #[.bool (zneg (Y:Int)),.slice (some ⟨bb,ob,none⟩) n d0] 47)).heap.size=w1.heap.size+1:=by simp
 rw [hsz] at hown hb2
 have hgq:=(World.ownsRow.lt hown _ rfl).2
 refine wp_world' (fun W=>DF 47 3 (w1.heap.size+1) w2.heap.size (w2.heap.size+1) m w1 [(w.heap.size,zneg x,.slice a0 m c0),(w.heap.size+1,zneg y,.slice a1 (zl y).length c1),(w.heap.size+1+1,false,.slice none 0 0),(w.heap.size+1+1+1,false,.slice none 0 0),(w1.heap.size,zneg (Y:Int),.slice (some ⟨bb,ob,none⟩) n d0)] (List.replicate m 0) 0 W) ⟨?_,?_,?_,?_,?_⟩ ?_
 ·intro e he
  have K1:=HK1.out
  simp only [List.mem_cons,List.not_mem_nil,or_false] at he
  rcases he with rfl|rfl|rfl|rfl|rfl
  ·exact (((K1 _ (by simp)).below yb2).alloc _).alloc _
  ·exact (((K1 _ (by simp)).below yb2).alloc _).alloc _
  ·exact (((K1 _ (by simp)).below yb2).alloc _).alloc _
  ·exact (((K1 _ (by simp)).below yb2).alloc _).alloc _
  ·exact (((ZL.made rfl).belowB hb2 (by omega)).alloc _).alloc _
 ·exact (ZL.made rfl).alloc _
 ·exact (hown.kept (below_alloc _ _)).kept (below_alloc _ _)
 ·exact ⟨none,0,ZL.made (by simp),Nz.nil' _ _ (by unfold maxLen;omega),fun p hp=>by cases hp⟩
 ·exact below_al (below_al yb2 _) _
 have hDO:DO (w1.heap.size+1) w2.heap.size (w2.heap.size+1) w1 [(w.heap.size,zneg x,.slice a0 m c0),(w.heap.size+1,zneg y,.slice a1 (zl y).length c1),(w.heap.size+1+1,false,.slice none 0 0),(w.heap.size+1+1+1,false,.slice none 0 0),(w1.heap.size,zneg (Y:Int),.slice (some ⟨bb,ob,none⟩) n d0)]:=by
  refine ⟨?_,hgq,by omega,by omega⟩
  intro e he
  simp only [List.mem_cons,List.not_mem_nil,or_false] at he
  rcases he with rfl|rfl|rfl|rfl|rfl<;>(simp only;omega)
 intro W hDF
 clear hown hb2 yb2 kB1' kB2' kA0 kA1
 obtain ⟨l,hl⟩: ∃l:List (Nat×Bool×Value),l= [(w.heap.size,zneg x,.slice a0 m c0),(w.heap.size+1,zneg y,.slice a1 (zl y).length c1),(w.heap.size+1+1,false,.slice none 0 0),(w.heap.size+1+1+1,false,.slice none 0 0),(w1.heap.size,zneg (Y:Int),.slice (some ⟨bb,ob,none⟩) n d0)]:=⟨_,rfl⟩
 rw [←hl] at hDF hDO
 have GA:=hid (fun W' (h:KV 47 W' l)=>h (w.heap.size,zneg x,.slice a0 m c0) (by rw [hl];simp))
 have GY:=hid (fun W' (h:KV 47 W' l)=>h (w.heap.size+1,zneg y,.slice a1 (zl y).length c1) (by rw [hl];simp))
 have G4:=hid (fun W' (h:KV 47 W' l)=>h (w.heap.size+1+1,false,.slice none 0 0) (by rw [hl];simp))
 have G5:=hid (fun W' (h:KV 47 W' l)=>h (w.heap.size+1+1+1,false,.slice none 0 0) (by rw [hl];simp))
 have GB:=hid (fun W' (h:KV 47 W' l)=>h (w1.heap.size,zneg (Y:Int),.slice (some ⟨bb,ob,none⟩) n d0) (by rw [hl];simp))
 obtain ⟨gB,hgB⟩: ∃g,g=w1.heap.size:=⟨_,rfl⟩
 obtain ⟨gS,hgS⟩: ∃g,g=w1.heap.size+1:=⟨_,rfl⟩
 obtain ⟨gQ,hgQ⟩: ∃g,g=w2.heap.size:=⟨_,rfl⟩
 obtain ⟨gR,hgR⟩: ∃g,g=w2.heap.size+1:=⟨_,rfl⟩
 rw [←hgS,←hgR,←hgQ] at hDF hDO ⊢
 rw [←hgB] at GB ⊢
 clear hl hgB hgS hgQ hgR HK1 hsz hgq w2
 have zB:=GB.out W hDF.1
 obtain ⟨kBv0,kBv1,-,-,-⟩:=id zB
 have zA:=GA.out W hDF.1
 obtain ⟨kAv0,kAv1,-,-,-⟩:=id zA
 have kd1:=(hDF.2.2.2.2.cell (p:=⟨bb,ob+(n-1),none⟩) (World.block_lt_of_cell? w1 _ kB1)).trans kB1
 have kd2:=fun h:1<n=>(hDF.2.2.2.2.cell (p:=⟨bb,ob+(n-2),none⟩) (World.block_lt_of_cell? w1 _ (kB2 h))).trans (kB2 h)
 have HDF:=hid hDF
 have HDO:=hid hDO
 clear zB zA kB1 kB2 hDF hDO
 go_upto_if 35 with fail
 go_cut [10] (fun s10 wx=> ∃H:Nat,s10=.int .i64 (H:Int)∧10000≤H∧H<100000000∧wx=W)
 case first=>
  by_cases hn2:1<n
  ·have e2':=e2 hn2
   have kd2':=kd2 hn2
   clear kd2 e2
   go_wp2_with fail
   go_meet
   exact ⟨10000*d1+d2,by go_num,by omega,by omega,rfl⟩
  ·clear kd2 e2
   go_wp2_with fail
   go_meet
   exact ⟨10000*d1,by go_num,by omega,by omega,rfl⟩
 case rest=>
  obtain ⟨H,rfl,hH1,hH2,rfl⟩:=hcut
  clear kd1 kd2 e1 e2
  go_upto_block 0 with fail
  go_cut [11,12,13,14,15] (fun _ _ _ _ _ wx=> ∃(T:List Nat) (R:Nat),T.length=m∧Dec T∧R<Y∧dval T*Y+R=x.natAbs∧DF 47 3 gS gQ gR m w1 l T (R:Int) wx)
  case first=>
   go_wp2_with fail
   go_loopw [11,12,13,14,15] (fun s11 _ _ _ _ wr=> ∃(i0:Int) (T:List Nat) (R:Nat),s11=.int .i64 i0∧ -1≤i0∧i0<m∧R<Y∧T.length=m∧Dec T∧dval (T.drop (i0+1).toNat)*Y+R=dval ((zl x).drop (i0+1).toNat)∧DF 47 3 gS gQ gR m w1 l T (R:Int) wr) (fun s11 _ _ _ _ _=>(intOf s11+1).toNat)
   case atStart=>exact ⟨(m:Int)-1,_,0,rfl,by omega,by omega,hYp,by simp,AllLt.replicate (by omega),by rw [List.drop_eq_nil_iff.2 (by simp),List.drop_eq_nil_iff.2 (by rw [←HM.out];omega)];simp [dval,val],HDF.out⟩
   case round=>
    obtain ⟨i0,T,R,rfl,hi1,hi2,hR,hT,lT,hinv,hDF⟩:=hrel
    have HT:=hid hT
    have HINV:=hid hinv
    clear hT hinv
    by_cases hi:i0<0
    ·obtain rfl:i0= -1:=by omega
     have hz:((-1:Int)+1).toNat=0:=by omega
     have hfin:dval T*Y+R=x.natAbs:=by
      have:=HINV.out
      rw [hz,List.drop_zero,List.drop_zero,dval_zl] at this;exact this
     have HF:=hid hfin
     clear hfin hz
     go_wp2_with fail
     go_meet
     exact ⟨T,R,HT.out,lT,hR,HF.out,hDF⟩
    ·obtain ⟨j,rfl⟩:=Int.eq_ofNat_of_zero_le (show 0≤i0 by omega)
     have hj:j<m:=by omega
     obtain ⟨ba,oa,rfl,hcA⟩:=h0'.1.2.2 (by rw [←HM.out];omega)
     obtain ⟨d,hd⟩: ∃z,z=(zl x).getD j 0:=⟨_,rfl⟩
     have bd:d<10000:=by rw [hd];exact lb_dec _ (zl_dec _) _
     have kA:=hcA j (by rw [←HM.out];exact hj)
     unfold lb at kA
     rw [←hd] at kA
     have hsz:ba<w1.heap.size:=World.block_lt_of_cell? w1 _ kA
     have kAr:=(hDF.2.2.2.2.cell (p:=⟨ba,oa+j,none⟩) hsz).trans kA
     obtain ⟨R1,hR1⟩: ∃z,z=d+10000*R:=⟨_,rfl⟩
     have hinv1:dval (T.drop (j+1))*(10000*Y)+R1=dval ((zl x).drop j):=by
      have h1:=HINV.out
      rw [show ((j:Int)+1).toNat=j+1 by omega] at h1
      rw [dval_drop (zl x) j (by rw [←HM.out];exact hj),←hd,←h1,hR1,Nat.mul_add,Nat.mul_left_comm];omega
     have hz:zof false (dval ([d]++zl (R:Int)))=(R1:Int):=by
      rw [zof_false,List.singleton_append,dval_cons,dval_zl,Int.natAbs_natCast,hR1]
     have hdec:Dec ([d]++zl (R:Int)):=AllLt.append.2 ⟨AllLt.cons.2 ⟨bd,AllLt.nil⟩,zl_dec _⟩
     have lR:(zl (R:Int)).length≤1000000000:=Nat.le_trans (zl_len_le (x:=(R:Int)) (y:=(Y:Int)) (by rw [Int.natAbs_natCast,Int.natAbs_natCast];omega)) (by rw [←HN.out];exact hn1)
     have HR1:=hid hR1
     have HINV1:=hid hinv1
     have HD:=hid hd
     have HZ:=hid hz
     have HDEC:=hid hdec
     have zA:=GA.out _ hDF.1
     obtain ⟨kAv0,kAv1,-,-,-⟩:=id zA
     have zRr:=hDF.2.2.2.1
     obtain ⟨aoR,capR,zR,hNR,hfR⟩:=id zRr
     obtain ⟨kR0,kR1,fR0,fR1,-⟩:=id zR
     have hltR:=zR.lt
     have hltA1:=zA.lt
     have hDF1:=hid hDF
     have hDOx:=HDO.out
     have hgR1:=hDOx.2.1
     have hgR2:=hDOx.2.2.1
     have hgR3:=hDOx.2.2.2
     clear hR1 hinv1 hd hz hdec hcA zA zRr zR hDF hDOx kA HINV
     go_upto_region 10 with fail
     go_cut [] (fun wx=>DF 47 3 gS gQ gR m w1 l T (R1:Int) wx)
     case first=>
      go_wp2_with fail
      go_region_law (first|(refine step_push ei_int (by omega) rfl (.tmp 57) (.tmp 59) rfl wr.heap.size [d] (zl (R:Int)) (.slice (some ⟨wr.heap.size,0,none⟩) 1 1) rfl (Own.drew1 (own_one wr .i64 3 d)) aoR capR _ rfl rfl (hNR.below (by (repeat' first|(with_reducible first|assumption|apply bR|apply bA|apply bN|apply bD|apply bL|apply bS)|refine bT ?_ (by assumption)|go_size))).1 (by simp;omega) (by simp) ?_;intro v1 wv hown1 hbv;obtain ⟨ao1,cap1,rfl,hN1⟩:=hown1.nz;have hfr1: ∀p,ao1=some p→p.block≠gS:=(fun p hp=>(by have:=hown1.fresh p hp;omega)))|(go_simp;go_at_call 114;refine (trim_at false ao1 cap1 ([d]++zl (R:Int)) _ hN1 HDEC.out).mono ?_;rw [HZ.out];rintro e wn ⟨cap2,rfl,hN2,hb2⟩;have hDFn:=DF.below hDF1.out (below_trans ((below_alloc wr _).drew.trans hbv) hb2);obtain ⟨_,_,⟨kn0,kn1,fn0,fn1,_⟩,_⟩:=id hDFn.2.2.2.1;dsimp only))
      all_goals
       go_wp2_with fail
       go_meet
       exact hDFn.setR HDO.out hne hN2 hfr1
     case rest=>
      obtain ⟨wa,rfl⟩: ∃wa:World,wa=wc:=⟨_,rfl⟩
      have hDF:=hcut
      clear hcut hDF1 hNR hfR kAr kR0 kR1 fR0 fR1 kAv0 kAv1 hltR hltA1
      obtain ⟨aoR,capR,zR,hNR,hfR⟩:=id hDF.2.2.2.1
      obtain ⟨kR0,kR1,-,-,-⟩:=id zR
      have hDFa:=hid hDF
      have hNRa:=hid hNR
      have hBa:=hid (HB.out.below hDF.2.2.2.2)
      clear zR hDF hNR
      go_upto_block 2 with fail
      go_cut [12,13] (fun s12 _ wx=> ∃tt:Nat,s12=.int .i64 (tt:Int)∧tt<1000000000000∧wx=wa)
      case first=>as_aux_lemma=>
       go_wp2_with fail
       go_loopw [12,13] (fun s12 s13 wr=> ∃k tt:Nat,s13=.int .i64 ((n:Int)-(k:Int))∧k≤3∧s12=.int .i64 (tt:Int)∧(k=0→tt<1)∧(k=1→tt<10000)∧(k=2→tt<100000000)∧tt<1000000000000∧wr=wa) (fun _ s13 _=>(intOf s13-(n:Int)+3).toNat)
       case atStart=>exact ⟨0,0,by go_num,by omega,rfl,by omega,by omega,by omega,by omega,rfl⟩
       case round=>
        obtain ⟨k,tt,rfl,hk,rfl,t0,t1,t2,t3,rfl⟩:=hrel
        by_cases hk3:k=3
        ·subst hk3
         have T3:=hid t3
         clear t0 t1 t2
         go_wp2_with fail
         go_meet
         exact ⟨tt,rfl,T3.out,rfl⟩
        ·have tb:tt<100000000:=by omega
         have hk2:k<3:=by omega
         by_cases hi:(n:Int)-(k:Int)<0
         ·have hd1:decide (0≤(n:Int)-(k:Int))=false:=by simp;omega
          have T0:=hid t0
          have T1:=hid t1
          clear t0 t1 t2 t3
          go_wp2_with fail
          go_roundw
          case rel=>exact ⟨k+1,tt*10000,by go_num,by omega,by go_num,by omega,fun h=>by have:=T0.out (by omega);omega,fun h=>by have:=T1.out (by omega);omega,by omega,trivial⟩
          case measure=>simp [intOf];omega
         ·obtain ⟨i,hi'⟩:=Int.eq_ofNat_of_zero_le (show 0≤(n:Int)-(k:Int) by omega)
          by_cases hir:i<(zl (R1:Int)).length
          ·obtain ⟨br,or',rfl,hcR⟩:=hNRa.out.1.2.2 (by omega)
           obtain ⟨dd,hdd⟩: ∃z,z=(zl (R1:Int)).getD i 0:=⟨_,rfl⟩
           have bdd:dd<10000:=by rw [hdd];exact lb_dec _ (zl_dec _) _
           have kC:=hcR i hir
           unfold lb at kC
           rw [←hdd] at kC
           have hd2:decide ((n:Int)-(k:Int)<((zl (R1:Int)).length:Int))=true:=by simp;omega
           have T0:=hid t0
           have T1:=hid t1
           clear t0 t1 t2 t3 hcR hdd
           go_wp2_with fail
           go_roundw
           case rel=>exact ⟨k+1,tt*10000+dd,by go_num,by omega,by go_num,by omega,fun h=>by have:=T0.out (by omega);omega,fun h=>by have:=T1.out (by omega);omega,by omega,trivial⟩
           case measure=>simp [intOf];omega
          ·have hd2:decide ((n:Int)-(k:Int)<((zl (R1:Int)).length:Int))=false:=by simp;omega
           have T0:=hid t0
           have T1:=hid t1
           clear t0 t1 t2 t3
           go_wp2_with fail
           go_roundw
           case rel=>exact ⟨k+1,tt*10000,by go_num,by omega,by go_num,by omega,fun h=>by have:=T0.out (by omega);omega,fun h=>by have:=T1.out (by omega);omega,by omega,trivial⟩
           case measure=>simp [intOf];omega
      case rest=>
       obtain ⟨tt,rfl,htt,rfl⟩:=hcut
       clear kR0 kR1 hNRa hfR
       obtain ⟨mm,hmm⟩: ∃z,z=tt/H:=⟨_,rfl⟩
       have emm:(tt:Int)/(H:Int)=(mm:Int):=by rw [hmm];exact (Int.natCast_ediv _ _).symm
       have bmm:mm≤tt:=by rw [hmm];exact Nat.div_le_self _ _
       have hbmm:mm<9223372036854775808:=by omega
       have lmm:(zl (mm:Int)).length≤64:=zl_len_bits _ _ (by rw [Int.natAbs_natCast];omega)
       have Hmm:=hid hmm
       clear hmm
       go_upto_region 19 with fail
       go_cut [15] (fun s15 wx=> ∃gP:Nat,s15=.pointer (some ⟨gP,0,none⟩)∧gR<gP∧DF 47 3 gS gQ gR m w1 l T (R1:Int) wx∧RV 47 3 gS wx gP ((Y*mm:Nat):Int))
       case first=>as_aux_lemma=>
        have eY:(Y:Int)*(mm:Int)=((Y*mm:Nat):Int):=(Int.natCast_mul _ _).symm
        have hzm:=fun (W:World) (a2:Option Addr) (c2:Nat) (g0:Nz 3 W (some ⟨bb,ob,none⟩) d0 (zl (Y:Int))) (g1:Nz 3 W a2 c2 (zl (mm:Int)))=>zmul_fresh (some ⟨bb,ob,none⟩) a2 d0 c2 (Y:Int) (mm:Int) W g0 g1 (by rw [←HN.out];omega) (by omega)
        rw [←HN.out,eY] at hzm
        have HZM:=hid hzm
        clear hzm
        have kB:=GB.out _ hDFa.out.1
        obtain ⟨kBv0,kBv1,-,-,-⟩:=id kB
        have hltB:=kB.lt
        have hltR:=hDFa.out.2.2.2.1.lt
        clear eY kB
        go_wp2_with fail
        go_region_with (first|(go_at_call 38;(with_reducible refine (zN_any mm hbmm _).mono ?_);rintro e wn ⟨aon,capn,rfl,hNn,hbn⟩;have ybn:Below wc.heap.size wc wn:=(by (repeat' (first|(with_reducible assumption)|(with_reducible exact Below.refl _ _)|(with_reducible refine below_al ?_ _)|(with_reducible refine below_drewN ?_ _)|(with_reducible refine Below.drew ?_)|(with_reducible refine Below.alloc ?_ ?_ _)|(with_reducible refine Below.setCell ?_ ?_ _)|(with_reducible refine below_trans ?_ (by with_reducible assumption))|go_size)));have hDFn:=DF.below hDFa.out ybn;have kBn:=GB.out _ hDFn.1;have kn0:=kBn.1;have kn1:=kBn.2.1;have hltn:=kBn.lt;have hltRn:=hDFn.2.2.2.1.lt;(first|(have zP0:=ZL.below (ZL.made (n:=false) (v:=.slice none 0 0) rfl) hbn)|(have zP0:=ZL.below (ZL.drew (ZL.made (n:=false) (v:=.slice none 0 0) rfl)) hbn)|skip))|(go_at_call 77;(with_reducible refine (HZM.out _ _ _ (Nz.below hBa.out (by (repeat' (first|(with_reducible assumption)|(with_reducible exact Below.refl _ _)|(with_reducible refine below_al ?_ _)|(with_reducible refine below_drewN ?_ _)|(with_reducible refine Below.drew ?_)|(with_reducible refine Below.alloc ?_ ?_ _)|(with_reducible refine Below.setCell ?_ ?_ _)|(with_reducible refine below_trans ?_ (by with_reducible assumption))|go_size)))) (Nz.below hNn (by (repeat' (first|(with_reducible assumption)|(with_reducible exact Below.refl _ _)|(with_reducible refine below_al ?_ _)|(with_reducible refine below_drewN ?_ _)|(with_reducible refine Below.drew ?_)|(with_reducible refine Below.alloc ?_ ?_ _)|(with_reducible refine Below.setCell ?_ ?_ _)|(with_reducible refine below_trans ?_ (by with_reducible assumption))|go_size))))).mono ?_);rintro e wn ⟨aon,capn,rfl,hNn,hbn,hfrn⟩;have ybn:Below wc.heap.size wc wn:=(by (repeat' (first|(with_reducible assumption)|(with_reducible exact Below.refl _ _)|(with_reducible refine below_al ?_ _)|(with_reducible refine below_drewN ?_ _)|(with_reducible refine Below.drew ?_)|(with_reducible refine Below.alloc ?_ ?_ _)|(with_reducible refine Below.setCell ?_ ?_ _)|(with_reducible refine below_trans ?_ (by with_reducible assumption))|go_size)));have hDFn:=DF.below hDFa.out ybn;(first|(have zPn:=ZL.below zP0 hbn;have kp0:=zPn.1;have kp1:=zPn.2.1;have fp0:=zPn.2.2.1;have fp1:=zPn.2.2.2.1)|(have zPn:=ZL.below (ZL.drew (ZL.made (n:=false) (v:=.slice none 0 0) rfl)) hbn;have kp0:=zPn.1;have kp1:=zPn.2.1;have fp0:=zPn.2.2.1;have fp1:=zPn.2.2.2.1)|(have zPn:=ZL.below (ZL.made (n:=false) (v:=.slice none 0 0) rfl) hbn;have kp0:=zPn.1;have kp1:=zPn.2.1;have fp0:=zPn.2.2.1;have fp1:=zPn.2.2.2.1)|skip)))
        all_goals
         have hfp: ∀p,aon=some p→p.block≠gS:=fun p hp=>by have h9:=hfrn p hp;(try simp at h9);omega
         have hltRm:=hDFn.2.2.2.1.lt
         go_wp2_with fail
         go_meet
         first
          |exact ⟨_,rfl,by omega,hDFn.alloc _,RV.made rfl hNn hfp⟩
          |exact ⟨_,rfl,by omega,DF.set2 HDO.out hne hDFn zPn.2.2.2.2 (by omega) _ _,RV.store zPn hNn hne hfp⟩
       case rest=>
        obtain ⟨gP,rfl,hgP,hDF,hRP⟩:=hcut
        obtain ⟨we,rfl⟩: ∃we:World,we=wc:=⟨_,rfl⟩
        have hDFe:=hid hDF
        have hRPe:=hid hRP
        clear hDF hRP hDFa hBa emm
        have hby:=hid (fun (W:World) (h:DF 47 3 gS gQ gR m w1 l T (R1:Int) W)=>HB.out.below h.2.2.2.2)
        go_upto_block 4 with fail
        go_cut [14] (fun s14 wx=> ∃mm pm:Nat,s14=.int .i64 (mm:Int)∧pm≤R1∧mm<9223372036854775807∧DF 47 3 gS gQ gR m w1 l T (R1:Int) wx∧RV 47 3 gS wx gP (pm:Int)∧pm=Y*mm)
        case first=>as_aux_lemma=>
         go_wp2_with fail
         go_loopw [14] (fun s14 wr=> ∃mm pm:Nat,s14=.int .i64 (mm:Int)∧mm<9223372036854775807∧DF 47 3 gS gQ gR m w1 l T (R1:Int) wr∧RV 47 3 gS wr gP (pm:Int)∧pm=Y*mm) (fun s14 _=>(intOf s14).toNat)
         case atStart=>exact ⟨mm,Y*mm,rfl,by omega,hDFe.out,hRPe.out,rfl⟩
         case round=>
          clear hDFe hRPe
          clear mm lmm Hmm bmm hbmm
          obtain ⟨mm,pm,rfl,bmm,hDF,hRP,hpm⟩:=hrel
          obtain ⟨aoR,capR,zR,hNR,hfR⟩:=id hDF.2.2.2.1
          obtain ⟨aoP,capP,zP,hNP,hfP⟩:=id hRP
          have zB:=GB.out _ hDF.1
          obtain ⟨kR0,kR1,-,-,-⟩:=id zR
          obtain ⟨kP0,kP1,fP0,fP1,-⟩:=id zP
          obtain ⟨kB0,kB1,-,-,-⟩:=id zB
          have hBw:=hid (hby.out _ hDF)
          have lpm:True:=trivial
          have hDFw:=hid hDF
          have hNPw:=hid hNP
          have hNRw:=hid hNR
          have hzPw:=hid zP
          have Hpm:=hid hpm
          have HfP:=hid hfP
          obtain ⟨c,hc⟩: ∃c,c=cmpI ((pm:Int).natAbs:Int) ((R1:Int).natAbs:Int):=⟨_,rfl⟩
          have Hc:=hid hc
          by_cases hgt:R1<pm
          ·have hc1:0<c:=by rw [hc];unfold cmpI;rw [Int.natAbs_natCast,Int.natAbs_natCast,if_neg (by omega),if_pos (by omega)];omega
           have hm1:0<mm:=by rcases Nat.eq_zero_or_pos mm with e|e;· (subst e;omega)
                             ·exact e
           have hYp2:Y≤pm:=by rw [hpm];exact Nat.le_mul_of_pos_right _ hm1
           have eS:(pm:Int)-(Y:Int)=((pm-Y:Nat):Int):=by omega
           have lP:(zl (pm:Int)).length≤4294967296:=by rw [hpm];exact Nat.le_trans (zl_len_mul Y mm n (by rw [←HN.out];exact Nat.le_refl _) (by omega)) (by omega)
           have hzs:=fun (W:World) (a2:Option Addr) (c2:Nat) (g0:Nz 3 W a2 c2 (zl (pm:Int))) (g1:Nz 3 W (some ⟨bb,ob,none⟩) d0 (zl (Y:Int)))=>zsub_fresh a2 (some ⟨bb,ob,none⟩) c2 d0 (pm:Int) (Y:Int) W g0 g1 lP (by rw [←HN.out];omega)
           rw [←HN.out,eS] at hzs
           have HZS:=hid hzs
           clear hc hpm eS hzs zR hNR hfR zP hNP hfP zB hRP hDF lP
           go_wp2_with (first|(go_at_call 113;(with_reducible refine (size_z _ _ _ _ _ _ _ hNPw.out hNRw.out).mono ?_);rw [←Hc.out];rintro e w' ⟨rfl,nq,rfl⟩)|(go_at_call 61;(with_reducible refine (HZS.out _ _ _ (Nz.below hNPw.out (by (repeat' (first|(with_reducible assumption)|(with_reducible exact Below.refl _ _)|(with_reducible refine below_al ?_ _)|(with_reducible refine below_drewN ?_ _)|(with_reducible refine Below.drew ?_)|(with_reducible refine Below.alloc ?_ ?_ _)|(with_reducible refine Below.setCell ?_ ?_ _)|(with_reducible refine below_trans ?_ (by with_reducible assumption))|go_size)))) (Nz.below hBw.out (by (repeat' (first|(with_reducible assumption)|(with_reducible exact Below.refl _ _)|(with_reducible refine below_al ?_ _)|(with_reducible refine below_drewN ?_ _)|(with_reducible refine Below.drew ?_)|(with_reducible refine Below.alloc ?_ ?_ _)|(with_reducible refine Below.setCell ?_ ?_ _)|(with_reducible refine below_trans ?_ (by with_reducible assumption))|go_size))))).mono ?_);rintro e wn ⟨aon,capn,rfl,hNn,hbn,hfrn⟩;have ybn:Below wr.heap.size wr wn:=(by (repeat' (first|(with_reducible assumption)|(with_reducible exact Below.refl _ _)|(with_reducible refine below_al ?_ _)|(with_reducible refine below_drewN ?_ _)|(with_reducible refine Below.drew ?_)|(with_reducible refine Below.alloc ?_ ?_ _)|(with_reducible refine Below.setCell ?_ ?_ _)|(with_reducible refine below_trans ?_ (by with_reducible assumption))|go_size)));have hDFn:=DF.below hDFw.out ybn;have zPn:=ZL.below hzPw.out ybn;have kp0:=zPn.1;have kp1:=zPn.2.1;have fp0:=zPn.2.2.1;have fp1:=zPn.2.2.2.1))
           have hfp: ∀p,aon=some p→p.block≠gS:=fun p hp=>by have h9:=hfrn p hp;have h8:=hDFw.out.2.2.2.1.lt;have h7:=HDO.out.2.1;have h6:=HDO.out.2.2.1;simp at h9;omega
           go_roundw
           case rel=>exact ⟨mm-1,pm-Y,by rw [show ((mm-1:Nat):Int)=(mm:Int)-1 by omega],by omega,DF.set2 HDO.out hne hDFn zPn.2.2.2.2 hgP _ _,RV.store zPn hNn hne hfp,by rw [Hpm.out,Nat.mul_sub,Nat.mul_one]⟩
           case measure=>simp [intOf];omega
          ·have hc1: ¬0<c:=by rw [hc];unfold cmpI;rw [Int.natAbs_natCast,Int.natAbs_natCast];split<;>(try split)<;>omega
           clear hc hpm zR hNR hfR zP hNP hfP zB hRP hDF
           go_wp2_with (go_at_call 113;(with_reducible refine (size_z _ _ _ _ _ _ _ hNPw.out hNRw.out).mono ?_);rw [←Hc.out];rintro e w' ⟨rfl,nq,rfl⟩)
           go_meet
           exact ⟨mm,pm,rfl,by omega,bmm,DF.below hDFw.out (below_drewN (Below.refl _ _) _),RV.below ⟨_,_,hzPw.out,hNPw.out,HfP.out⟩ (below_drewN (Below.refl _ _) _),Hpm.out⟩
        case rest=>
         obtain ⟨mm,pm,rfl,hpR,bmm,hDF,hRP,hpm⟩:=hcut
         obtain ⟨wf,rfl⟩: ∃wf:World,wf=wc:=⟨_,rfl⟩
         have hDFf:=hid hDF
         have hRPf:=hid hRP
         have Hpm0:=hid hpm
         clear hDF hRP hDFe hRPe hpm
         go_upto_block 6 with fail
         go_cut [14] (fun s14 wx=> ∃mm pm:Nat,s14=.int .i64 (mm:Int)∧pm≤R1∧R1<pm+Y∧DF 47 3 gS gQ gR m w1 l T (R1:Int) wx∧RV 47 3 gS wx gP (pm:Int)∧pm=Y*mm)
         case first=>as_aux_lemma=>
          have hRb:R1<Y*10000:=by have:=HR1.out;omega
          go_wp2_with fail
          go_loopw [14] (fun s14 wr=> ∃mm pm:Nat,s14=.int .i64 (mm:Int)∧pm≤R1∧mm<9223372036854775807∧DF 47 3 gS gQ gR m w1 l T (R1:Int) wr∧RV 47 3 gS wr gP (pm:Int)∧pm=Y*mm) (fun s14 _=>10000-(intOf s14).toNat)
          case atStart=>exact ⟨mm,pm,rfl,hpR,bmm,hDFf.out,hRPf.out,Hpm0.out⟩
          case round=>
           clear hDFf hRPf
           obtain ⟨mm,pm,rfl,hpR,bmm,hDF,hRP,hpm⟩:=hrel
           obtain ⟨aoR,capR,zR,hNR,hfR⟩:=id hDF.2.2.2.1
           obtain ⟨aoP,capP,zP,hNP,hfP⟩:=id hRP
           have zB:=GB.out _ hDF.1
           obtain ⟨kR0,kR1,-,-,-⟩:=id zR
           obtain ⟨kP0,kP1,fP0,fP1,-⟩:=id zP
           obtain ⟨kB0,kB1,-,-,-⟩:=id zB
           have hBw:=hid (hby.out _ hDF)
           have hDFw:=hid hDF
           have hNPw:=hid hNP
           have hNRw:=hid hNR
           have hzPw:=hid zP
           have hzRw:=hid zR
           have Hpm:=hid hpm
           have HfP:=hid hfP
           have bm4:mm<10000:=by
            rcases Nat.lt_or_ge mm 10000 with h|h
            ·exact h
            ·have:=Nat.mul_le_mul_left Y h;rw [←hpm] at this;omega
           have lP:(zl (pm:Int)).length≤4294967296:=by rw [hpm];exact Nat.le_trans (zl_len_mul Y mm n (by rw [←HN.out];exact Nat.le_refl _) (by omega)) (by omega)
           obtain ⟨pn,hpn⟩: ∃z,z=pm+Y:=⟨_,rfl⟩
           have eS:(pm:Int)+(Y:Int)=(pn:Int):=by omega
           have hza:=fun (W:World) (a2:Option Addr) (c2:Nat) (g0:Nz 3 W a2 c2 (zl (pm:Int))) (g1:Nz 3 W (some ⟨bb,ob,none⟩) d0 (zl (Y:Int)))=>zadd_fresh a2 (some ⟨bb,ob,none⟩) c2 d0 (pm:Int) (Y:Int) W g0 g1 lP (by rw [←HN.out];omega)
           rw [←HN.out,eS] at hza
           have HZA:=hid hza
           obtain ⟨c,hc⟩: ∃c,c=cmpI ((pn:Int).natAbs:Int) ((R1:Int).natAbs:Int):=⟨_,rfl⟩
           have Hc:=hid hc
           have hlc:c≤0↔pn≤R1:=by rw [hc];unfold cmpI;rw [Int.natAbs_natCast,Int.natAbs_natCast];split<;>(try split)<;>omega
           clear hc hpm eS hza zR hNR hfR zP hNP hfP zB hRP hDF lP
           have Hpn:=hid hpn
           have hfld:=run_zfield
           clear hpn
           go_wp2_with fail
           go_region_with (first|(go_at_call 76;(with_reducible refine (HZA.out _ _ _ (Nz.below hNPw.out (by (repeat' (first|(with_reducible assumption)|(with_reducible exact Below.refl _ _)|(with_reducible refine below_al ?_ _)|(with_reducible refine below_drewN ?_ _)|(with_reducible refine Below.drew ?_)|(with_reducible refine Below.alloc ?_ ?_ _)|(with_reducible refine Below.setCell ?_ ?_ _)|(with_reducible refine below_trans ?_ (by with_reducible assumption))|go_size)))) (Nz.below hBw.out (by (repeat' (first|(with_reducible assumption)|(with_reducible exact Below.refl _ _)|(with_reducible refine below_al ?_ _)|(with_reducible refine below_drewN ?_ _)|(with_reducible refine Below.drew ?_)|(with_reducible refine Below.alloc ?_ ?_ _)|(with_reducible refine Below.setCell ?_ ?_ _)|(with_reducible refine below_trans ?_ (by with_reducible assumption))|go_size))))).mono ?_);rintro e wn ⟨aon,capn,rfl,hNn,hbn,hfrn⟩;have ybn:Below wr.heap.size wr wn:=(by (repeat' (first|(with_reducible assumption)|(with_reducible exact Below.refl _ _)|(with_reducible refine below_al ?_ _)|(with_reducible refine below_drewN ?_ _)|(with_reducible refine Below.drew ?_)|(with_reducible refine Below.alloc ?_ ?_ _)|(with_reducible refine Below.setCell ?_ ?_ _)|(with_reducible refine below_trans ?_ (by with_reducible assumption))|go_size)));have zRn:=ZL.below hzRw.out ybn;have kn0:=zRn.1;have kn1:=zRn.2.1)|(go_at_call 113;(with_reducible refine (size_z _ _ _ _ _ _ _ hNn (Nz.below hNRw.out (by (repeat' (first|(with_reducible assumption)|(with_reducible exact Below.refl _ _)|(with_reducible refine below_al ?_ _)|(with_reducible refine below_drewN ?_ _)|(with_reducible refine Below.drew ?_)|(with_reducible refine Below.alloc ?_ ?_ _)|(with_reducible refine Below.setCell ?_ ?_ _)|(with_reducible refine below_trans ?_ (by with_reducible assumption))|go_size))))).mono ?_);rw [←Hc.out];rintro e w' ⟨rfl,nq,rfl⟩))
           all_goals
            have hDFn:=DF.below hDFw.out ybn
            have zPn:=ZL.below hzPw.out ybn
            have hNPn:=Nz.below hNPw.out ybn
            have hBn:=Nz.below hBw.out ybn
            obtain ⟨kp0,kp1,fp0,fp1,-⟩:=id zPn
            have zBn:=GB.out _ hDFn.1
            obtain ⟨kb0,kb1,-,-,-⟩:=id zBn
            have HDFn:=hid hDFn
            have HNPn:=hid hNPn
            have HBn:=hid hBn
            have HzPn:=hid zPn
            clear hDFn hNPn hBn zPn zBn zRn hNn kn0 kn1 kR0 kR1 kP0 kP1 fP0 fP1 kB0 kB1 hbn hfrn
            by_cases hle:pn≤R1
            ·have hc1:c≤0:=hlc.2 hle
             clear hlc
             go_wp2_with (go_at_call 76;(with_reducible refine (HZA.out _ _ _ (Nz.below HNPn.out (by (repeat' (first|(with_reducible assumption)|(with_reducible exact Below.refl _ _)|(with_reducible refine below_al ?_ _)|(with_reducible refine below_drewN ?_ _)|(with_reducible refine Below.drew ?_)|(with_reducible refine Below.alloc ?_ ?_ _)|(with_reducible refine Below.setCell ?_ ?_ _)|(with_reducible refine below_trans ?_ (by with_reducible assumption))|go_size)))) (Nz.below HBn.out (by (repeat' (first|(with_reducible assumption)|(with_reducible exact Below.refl _ _)|(with_reducible refine below_al ?_ _)|(with_reducible refine below_drewN ?_ _)|(with_reducible refine Below.drew ?_)|(with_reducible refine Below.alloc ?_ ?_ _)|(with_reducible refine Below.setCell ?_ ?_ _)|(with_reducible refine below_trans ?_ (by with_reducible assumption))|go_size))))).mono ?_);rintro e wn2 ⟨aon2,capn2,rfl,hNn2,hbn2,hfrn2⟩;have ybn2:Below wn.heap.size wn wn2:=(by (repeat' (first|(with_reducible assumption)|(with_reducible exact Below.refl _ _)|(with_reducible refine below_al ?_ _)|(with_reducible refine below_drewN ?_ _)|(with_reducible refine Below.drew ?_)|(with_reducible refine Below.alloc ?_ ?_ _)|(with_reducible refine Below.setCell ?_ ?_ _)|(with_reducible refine below_trans ?_ (by with_reducible assumption))|go_size)));have hDFn2:=DF.below HDFn.out ybn2;have zPn2:=ZL.below HzPn.out ybn2;have kp20:=zPn2.1;have kp21:=zPn2.2.1;have fp20:=zPn2.2.2.1;have fp21:=zPn2.2.2.2.1)
             have hfp: ∀p,aon2=some p→p.block≠gS:=fun p hp=>by have h9:=hfrn2 p hp;have h8:=HDFn.out.2.2.2.1.lt;have h7:=HDO.out.2.1;have h6:=HDO.out.2.2.1;simp at h9;omega
             go_roundw
             case rel=>exact ⟨mm+1,pn,by go_num,hle,by omega,DF.set2 HDO.out hne hDFn2 zPn2.2.2.2.2 hgP _ _,RV.store zPn2 hNn2 hne hfp,by rw [Hpn.out,Hpm.out,Nat.mul_succ]⟩
             case measure=>simp [intOf];omega
            ·have hc1: ¬c≤0:=fun h=>hle (hlc.1 h)
             clear hlc
             go_wp2_with fail
             go_meet
             exact ⟨mm,pm,rfl,hpR,by have:=Hpn.out;omega,DF.below HDFn.out (below_drewN (Below.refl _ _) _),RV.below ⟨_,_,HzPn.out,HNPn.out,HfP.out⟩ (below_drewN (Below.refl _ _) _),Hpm.out⟩
         case rest=>
          obtain ⟨mm,pm,rfl,hpR,hRp,hDF,hRP,hpm⟩:=hcut
          have hRb:R1<Y*10000:=by have:=HR1.out;omega
          have bm4:mm<10000:=by
           rcases Nat.lt_or_ge mm 10000 with h|h
           ·exact h
           ·have:=Nat.mul_le_mul_left Y h;rw [←hpm] at this;omega
          have zQ:=hDF.2.1
          obtain ⟨kQ0,kQ1,-,-,-⟩:=id zQ
          have kc:=hDF.2.2.1.cell j (by rw [HT.out];exact hj)
          have fc:=hDF.2.2.1.free j
          have hsq:=hid (hDF.setq HDO.out j mm)
          have hsp:=hid (hRP.setf (by omega) j (.int .i64 (mm:Int)))
          have Hpm:=hid hpm
          have hDFh:=hid hDF
          have hRPh:=hid hRP
          clear zQ hDF hRP hpm hDFf hRPf Hpm0
          go_upto_region 26 with fail
          go_cut [] (fun wx=>DF 47 3 gS gQ gR m w1 l (T.set j mm) (R1:Int) wx∧RV 47 3 gS wx gP (pm:Int))
          case first=>as_aux_lemma=>
           go_wp2_with fail
           go_meet
           exact ⟨hsq.out,hsp.out⟩
          case rest=>
           obtain ⟨hDF,hRP⟩:=hcut
           clear hsq hsp kQ0 kQ1 kc fc hDFh hRPh
           obtain ⟨aoR,capR,zR,hNR,hfR⟩:=id hDF.2.2.2.1
           obtain ⟨aoP,capP,zP,hNP,hfP⟩:=id hRP
           obtain ⟨kR0,kR1,fR0,fR1,-⟩:=id zR
           obtain ⟨kP0,kP1,-,-,-⟩:=id zP
           have eS:(R1:Int)-(pm:Int)=((R1-pm:Nat):Int):=by omega
           have lR1:(zl (R1:Int)).length≤4294967296:=Nat.le_trans (zl_len_le (x:=(R1:Int)) (y:=((Y*10000:Nat):Int)) (by rw [Int.natAbs_natCast,Int.natAbs_natCast];omega)) (Nat.le_trans (zl_len_mul Y 10000 n (by rw [←HN.out];exact Nat.le_refl _) (by omega)) (by omega))
           have lP:(zl (pm:Int)).length≤4294967296:=Nat.le_trans (zl_len_le (x:=(pm:Int)) (y:=(R1:Int)) (by rw [Int.natAbs_natCast,Int.natAbs_natCast];omega)) lR1
           have hzs:=zsub_fresh aoR aoP capR capP (R1:Int) (pm:Int) wc hNR hNP lR1 lP
           rw [eS] at hzs
           have HZS:=hid hzs
           have hDFw:=hid hDF
           clear eS hzs lR1 lP zR hNR hfR zP hNP hfP hDF hRP
           go_wp2_with (go_at_call 61;(with_reducible refine HZS.out.mono ?_);rintro e wn ⟨aon,capn,rfl,hNn,hbn,hfrn⟩;have hDFn:=DF.below hDFw.out hbn;obtain ⟨_,_,⟨kn0,kn1,fn0,fn1,_⟩,_⟩:=id hDFn.2.2.2.1)
           have hfp: ∀p,aon=some p→p.block≠gS:=fun p hp=>by have h9:=hfrn p hp;have h8:=hDFw.out.2.2.2.1.lt;have h7:=HDO.out.2.1;have h6:=HDO.out.2.2.1;omega
           go_roundw
           case rel=>
            refine ⟨(j:Int)-1,T.set j mm,R1-pm,by first|rfl|go_num,by omega,by omega,by omega,by rw [List.length_set];exact HT.out,lT.set j mm bm4,?_,DF.setR HDO.out hne hDFn hNn hfp⟩
            rw [show ((j:Int)-1+1).toNat=j by omega,dval_drop_set T j mm (by rw [HT.out];exact hj),←HINV1.out,Nat.add_mul,Nat.mul_comm mm Y,←Hpm.out]
            have:10000*dval (T.drop (j+1))*Y=dval (T.drop (j+1))*(10000*Y):=by rw [Nat.mul_comm 10000,Nat.mul_assoc]
            omega
           case measure=>simp [intOf]<;>omega
  case rest=>
   obtain ⟨T,R,hT,lT,hR,hfin,hDF⟩:=hcut
   have zQ:=hDF.2.1
   obtain ⟨kQ0,kQ1,fQ0,fQ1,-⟩:=id zQ
   have hNT:Nz 3 wc (some ⟨gS,0,none⟩) m T:=by
    obtain ⟨ao,cap,he,hN⟩:=hDF.2.2.1.nz
    injection he with e1 e2 e3
    rw [e1,e3];exact hN
   have htr:=trim_any false (some ⟨gS,0,none⟩) m T wc hNT lT
   rw [hT,zof_false] at htr
   have HTR:=hid htr
   have hDFw:=hid hDF
   have hqr:=zdiv_fin x y (dval T:Int) (R:Int) (by have:=HY.out;omega) (by have:=HY.out;rw [←this,←Int.natCast_mul,←Int.natCast_add,hfin]) (by omega) (by have:=HY.out;omega)
   have hRl:0<(zl (R:Int)).length↔0<R:=by rw [zl_nat];exact digs_len_pos 10000 (by omega) R
   have HQR:=hid hqr
   have HRL:=hid hRl
   obtain ⟨qv,hqv⟩: ∃z:Int,z=(dval T:Int):=⟨_,rfl⟩
   have lqv:(zl qv).length≤4000000000:=by rw [hqv,zl_nat];exact Nat.le_trans (decs_len_le T lT) (by rw [hT];exact hl0)
   rw [←hqv] at HTR HQR
   clear zQ hNT htr hDF hqr hRl hfin hT lT hqv
   go_upto_region 29 with (go_at_call 114;(with_reducible refine HTR.out.mono ?_);rintro e wn ⟨aon,capn,rfl,hNn,hbn⟩;have hDFn:=DF.below hDFw.out hbn;obtain ⟨kn0,kn1,fn0,fn1,_⟩:=id hDFn.2.1)
   refine wp_world' (fun W=>DG 47 3 gS gQ gR w1 l qv (R:Int) W) (hDFn.dg HDO.out hne hNn) ?_
   intro W1 hDG
   clear hDFn kn0 kn1 fn0 fn1 hNn hbn kQ0 kQ1 fQ0 fQ1 hDFw HTR
   have zA:=GA.out _ hDG.1
   have hDGw:=hid hDG
   obtain ⟨kA0,kA1,-,-,-⟩:=id zA
   obtain ⟨aoR,capR,zR,hNR⟩:=id hDG.2.2.1
   obtain ⟨kR0,kR1,-,-,-⟩:=id zR
   obtain ⟨cb,hcb⟩: ∃cb:Bool,cb=(zneg x&&decide (0<(zl (R:Int)).length)):=⟨_,rfl⟩
   clear zA zR hNR hDG
   go_cut [136] (fun s wx=>s=.bool cb∧wx=W1)
   case first=>
    by_cases hxn:zneg x=true
    ·by_cases hr0:0<(zl (R:Int)).length
     ·have hcb':cb=true:=by rw [hcb,hxn];simp [hr0]
      clear hcb
      subst hcb'
      go_wp2_with fail
      go_meet
      exact ⟨rfl,rfl⟩
     ·have hcb':cb=false:=by rw [hcb];simp [hr0]
      clear hcb
      subst hcb'
      go_wp2_with fail
      go_meet
      exact ⟨rfl,rfl⟩
    ·have hxf:zneg x=false:=by simpa using hxn
     have hcb':cb=false:=by rw [hcb,hxf];rfl
     clear hcb hxn
     subst hcb'
     go_wp2_with fail
     go_meet
     exact ⟨rfl,rfl⟩
   case rest=>
    obtain ⟨rfl,hwc⟩:=hcut
    subst hwc
    have hcbx:cb=true↔(x<0∧0<(R:Int)):=by
     rw [hcb]
     have:=HRL.out
     unfold zneg
     simp
     omega
    clear hcb kA0 kA1 kR0 kR1
    obtain ⟨q2,hq2⟩: ∃z:Int,z=if cb=true then qv+1 else qv:=⟨_,rfl⟩
    obtain ⟨r2,hr2⟩: ∃z:Int,z=if cb=true then (Y:Int)-(R:Int) else (R:Int):=⟨_,rfl⟩
    have hfq:(if decide (x<0)=decide (y<0) then q2 else -q2)=x/y∧r2=x%y:=by
     have h9:=HQR.out
     rw [←HY.out] at h9
     by_cases hc:cb=true
     ·have:=h9.2 (hcbx.1 hc)
      rw [hq2,hr2,if_pos hc,if_pos hc];exact this
     ·have:=h9.1 (fun h=>hc (hcbx.2 h))
      rw [hq2,hr2,if_neg hc,if_neg hc];exact this
    have HFQ:=hid hfq
    have Hq2:=hid hq2
    have Hr2:=hid hr2
    clear hfq hcbx hq2 hr2 HQR HRL
    go_upto_if 136 with fail
    go_cut [] (fun wx=>DG 47 3 gS gQ gR w1 l q2 r2 wx)
    case first=>as_aux_lemma=>
     cases hcb:cb
     ·have e1:=Hq2.out
      have e2:=Hr2.out
      rw [hcb] at e1 e2
      rw [if_neg (by decide)] at e1 e2
      have HD:=hid hDGw.out
      rw [←e1,←e2] at HD
      clear e1 e2 hcb
      go_wp2_with fail
      go_meet
      exact HD.out
     ·have e1:=Hq2.out
      have e2:=Hr2.out
      rw [hcb] at e1 e2
      rw [if_pos rfl] at e1 e2
      have hDG:=hDGw.out
      obtain ⟨aoR,capR,zR,hNR⟩:=id hDG.2.2.1
      obtain ⟨aoQ,capQ,zQ,hNQ⟩:=id hDG.2.1
      have zB:=GB.out _ hDG.1
      obtain ⟨kR0,kR1,fR0,fR1,-⟩:=id zR
      obtain ⟨kQ0,kQ1,fQ0,fQ1,-⟩:=id zQ
      obtain ⟨kB0,kB1,-,-,-⟩:=id zB
      have hBw:=hid (HB.out.below hDG.2.2.2)
      have hNRw:=hid hNR
      have hNQw:=hid hNQ
      have lR:(zl (R:Int)).length≤4294967296:=Nat.le_trans (zl_len_le (x:=(R:Int)) (y:=(Y:Int)) (by rw [Int.natAbs_natCast,Int.natAbs_natCast];omega)) (by rw [←HN.out];omega)
      have lQ:(zl qv).length≤4294967296:=by omega
      have hza:=fun (W:World) (a2:Option Addr) (c2:Nat) (g0:Nz 3 W aoQ capQ (zl qv)) (g1:Nz 3 W a2 c2 (zl (1:Int)))=>zadd_any aoQ a2 capQ c2 qv 1 W g0 g1 lQ (by decide)
      have hzs:=fun (W:World) (g0:Nz 3 W (some ⟨bb,ob,none⟩) d0 (zl (Y:Int))) (g1:Nz 3 W aoR capR (zl (R:Int)))=>zsub_any (some ⟨bb,ob,none⟩) aoR d0 capR (Y:Int) (R:Int) W g0 g1 (by rw [←HN.out];omega) lR
      rw [←e1] at hza
      rw [←HN.out,←e2] at hzs
      have HZA:=hid hza
      have HZS:=hid hzs
      have hz1:=fun W=>zN_any 1 (by omega) W
      have HZ1:=hid hz1
      have hQR:gQ≠gR:=by have:=HDO.out.2.2.1;omega
      have hzQw:=hid zQ
      have hzRw:=hid zR
      have hzBw:=hid zB
      clear e1 e2 hcb hDG zR hNR zQ hNQ zB lR lQ hza hzs hz1 GA GY G4 G5 GB yb1 h0' HB Hzabs HFQ Hq2 Hr2
      go_wp2_with fail
      refine wp_region_grow 6 [137,138,139,140,141,142] [Fact.is (.agg #[.bool (zneg qv),.slice aoQ (zl qv).length capQ]),Fact.z 3 1,Fact.z 3 q2,Fact.is (.agg #[.bool (zneg (Y:Int)),.slice (some ⟨bb,ob,none⟩) n d0]),Fact.is (.agg #[.bool (zneg (R:Int)),.slice aoR (zl (R:Int)).length capR]),Fact.z 3 r2] (by kernel_rfl) (by kernel_rfl) ⟨?_,?_,?_,?_,?_,?_,trivial⟩ ?_
      ·refine oQ rfl ?_;intro ρ w1 R hcon hfn hρ hb hp hR;have e7:ρ (.tmp 7)=.pointer (some ⟨gQ,0,none⟩):=hρ.tmp 7 rfl;obtain ⟨j0,j1,-,-,-⟩:=hzQw.out.below hb;clear hρ hp;unfold OpRun;go_simp
       exact hR _ _ (Below.refl _ _) rfl
      ·refine oQ rfl ?_;intro ρ w1 R hcon hfn hρ hb hp hR;skip;clear hρ hp;unfold OpRun;go_simp
       (refine (HZ1.out _).mono ?_;rintro e wn ⟨aon,capn,rfl,hNn,hbn⟩;exact ⟨_,rfl,hR _ _ hbn ⟨_,_,rfl,hNn⟩⟩)
      ·refine oQ rfl ?_;intro ρ w1 R hcon hfn hρ hb hp hR;have e137:ρ (.tmp 137)=_:=hp 0 137 rfl rfl;obtain ⟨ao1,cap1,e138,hN1⟩:=hp 1 138 rfl rfl;clear hρ hp;unfold OpRun;go_simp
       (refine (HZA.out _ _ _ (Nz.below hNQw.out hb) hN1).mono ?_;rintro e wn ⟨aon,capn,rfl,hNn,hbn⟩;exact ⟨_,rfl,hR _ _ hbn ⟨_,_,rfl,hNn⟩⟩)
      ·refine oQ rfl ?_;intro ρ w1 R hcon hfn hρ hb hp hR;have e6:ρ (.tmp 6)=.pointer (some ⟨gB,0,none⟩):=hρ.tmp 6 rfl;obtain ⟨j0,j1,-,-,-⟩:=hzBw.out.below hb;clear hρ hp;unfold OpRun;go_simp
       exact hR _ _ (Below.refl _ _) rfl
      ·refine oQ rfl ?_;intro ρ w1 R hcon hfn hρ hb hp hR;have e8:ρ (.tmp 8)=.pointer (some ⟨gR,0,none⟩):=hρ.tmp 8 rfl;obtain ⟨j0,j1,-,-,-⟩:=hzRw.out.below hb;clear hρ hp;unfold OpRun;go_simp
       exact hR _ _ (Below.refl _ _) rfl
      ·refine oQ rfl ?_;intro ρ w1 R hcon hfn hρ hb hp hR;have e140:ρ (.tmp 140)=_:=hp 3 140 rfl rfl;have e141:ρ (.tmp 141)=_:=hp 4 141 rfl rfl;clear hρ hp;unfold OpRun;go_simp
       (refine (HZS.out _ (Nz.below hBw.out hb) (Nz.below hNRw.out hb)).mono ?_;rintro e wn ⟨aon,capn,rfl,hNn,hbn⟩;exact ⟨_,rfl,hR _ _ hbn ⟨_,_,rfl,hNn⟩⟩)
      intro u wn hb hf
      obtain ⟨ao1,cap1,e139,hq'⟩:=hf 2 139 (by omega) rfl
      obtain ⟨ao2,cap2,e142,hr'⟩:=hf 5 142 (by omega) rfl
      have hDGn:=DG.below hDGw.out hb
      obtain ⟨kn0,kn1,fn0,fn1,sn⟩:=ZL.below hzQw.out hb
      obtain ⟨km0,km1,fm0,fm1,_⟩:=ZL.below hzRw.out hb
      clear hf
      simp only [putAll,Act.put,List.setIfInBounds_toArray,List.set_cons_zero,List.set_cons_succ]
      rw [e139,e142]
      go_wp2_with fail
      go_meet
      exact DG.setR HDO.out hne (DG.setQ HDO.out hne hDGn hq') ((hr'.setCell sn hne 0 _).setCell (sn.setCell _ _) hne 1 _)
    case rest=>
     have hDG:=hcut
     have zA:=GA.out _ hDG.1
     have zY:=GY.out _ hDG.1
     obtain ⟨kA0,kA1,-,-,-⟩:=id zA
     obtain ⟨kY0,kY1,-,-,-⟩:=id zY
     have hDGw:=hid hDG
     have G4w:=hid (fun W' (h:KV 47 W' l)=>And.intro (G4.out W' h) (G5.out W' h))
     obtain ⟨aoQ,capQ,zQ,hNQ⟩:=id hDG.2.1
     obtain ⟨kQ0,kQ1,-,-,-⟩:=id zQ
     clear zA zY zQ hDG hcut GA GY G4 G5 GB h0' HB Hzabs Hq2 Hr2
     by_cases hs:zneg x=zneg y
     ·have hr:q2=x/y∧r2=x%y:=by
       have h9:=HFQ.out
       rw [if_pos (show decide (x<0)=decide (y<0) from hs)] at h9;exact h9
      rw [hs] at kA0
      have HR:=hid hr
      clear hs hr hNQ kQ0 kQ1
      go_upto_if 147 with fail
      go_cut [] (fun wx=> ∃q3:Int,(q3=x/y∧r2=x%y)∧DG 47 3 gS gQ gR w1 l q3 r2 wx)
      case first=>as_aux_lemma=>
       go_wp2_with fail
       go_meet
       exact ⟨q2,HR.out,hDGw.out⟩
      case rest=>
       obtain ⟨q3,hr3,hDG⟩:=hcut
       have z45:=G4w.out _ hDG.1
       obtain ⟨⟨k40,k41,f40,f41,s4⟩,⟨k50,k51,f50,f51,s5⟩⟩:=z45
       obtain ⟨aoQ,capQ,zQ,hNQ⟩:=id hDG.2.1
       obtain ⟨aoR,capR,zR,hNR⟩:=id hDG.2.2.1
       obtain ⟨kQ0,kQ1,-,-,-⟩:=id zQ
       obtain ⟨kR0,kR1,-,-,-⟩:=id zR
       have o1:=HDO.out.2.1
       have o2:=HDO.out.2.2.1
       have o3:=HDO.out.2.2.2
       have yw:Below w.heap.size w wc:=below_trans yb1 hDG.2.2.2
       have n1:gQ≠w.heap.size+1+1:=by omega
       have n2:gQ≠w.heap.size+1+1+1:=by omega
       have n3:gR≠w.heap.size+1+1:=by omega
       have n4:gR≠w.heap.size+1+1+1:=by omega
       have HR3:=hid hr3
       have hNQw:=hid hNQ
       have hNRw:=hid hNR
       have yww:=hid yw
       clear hr3 zQ zR hDG G4w HDO HFQ yb1 HM HLY HN HY HDF hDGw HR o1 o2 o3 hl1 hlt hltA hltY hNQ hNR yw
       go_upto_region 33 with fail
       go_cut [] (fun wx=> ∃ao cap bo cbp,Nz 3 wx ao cap (zl q3)∧Nz 3 wx bo cbp (zl r2)∧Below w.heap.size w wx∧ZL 47 wx (w.heap.size+1+1) (zneg q3) (.slice ao (zl q3).length cap)∧ZL 47 wx (w.heap.size+1+1+1) (zneg r2) (.slice bo (zl r2).length cbp))
       case first=>
        go_region
        all_goals
         go_wp2_with fail
         go_meet
         exact ⟨_,_,_,_,Nz.below ((hNQw.out.st2 s4 hne _ _).st2 (s5.st2 _ _ _) hne _ _) (Below.drew (Below.refl _ _)),Nz.below ((hNRw.out.st2 s4 hne _ _).st2 (s5.st2 _ _ _) hne _ _) (Below.drew (Below.refl _ _)),((((yww.out.setCell (by first|omega|(simp;done)|(simp;omega)) _).setCell (by first|omega|(simp;done)|(simp;omega)) _).setCell (by first|omega|(simp;done)|(simp;omega)) _).setCell (by first|omega|(simp;done)|(simp;omega)) _).drew,ZL.drew (((ZL.set1 (ZL.set0 ⟨k40,k41,f40,f41,s4⟩ _) _).far _ _ (by first|omega|(simp;done)|(simp;omega))).far _ _ (by first|omega|(simp;done)|(simp;omega))),ZL.drew (ZL.set1 (ZL.set0 (((ZL.far ⟨k50,k51,f50,f51,s5⟩ _ _ (by first|omega|(simp;done)|(simp;omega)))).far _ _ (by first|omega|(simp;done)|(simp;omega))) _) _)⟩
       case rest=>
        obtain ⟨ao,cap,bo,cbp,hq,hr,yf,⟨j40,j41,-,-,-⟩,⟨j50,j51,-,-,-⟩⟩:=hcut
        have HJ:=hid (And.intro (And.intro j40 j41) (And.intro j50 j51))
        have HQ9:=hid (And.intro hq (And.intro hr yf))
        clear k40 k41 f40 f41 s4 k50 k51 f50 f51 s5 kQ0 kQ1 kR0 kR1 j40 j41 j50 j51 hq hr yf kBv0 kBv1 kAv0 kAv1 kA0 kA1 kY0 kY1 hH1 hH2 n1 n2 n3 n4 hNQw hNRw yww bd1 bd2 hp1 hYp hl0 hlp hn1 hR lqv hDGw
        rename_i K9 hK9
        refine hK9 _ _ ?_
        refine wp_ret ?_
        obtain ⟨⟨j40,j41⟩,⟨j50,j51⟩⟩:=HJ.out
        obtain ⟨hq,hr,yf⟩:=HQ9.out
        refine bodyPost_ret (by simp [results,Tryz.results97,go_sem,j40,j41,j50,j51];try rfl) rfl ?_
        rw [←HR3.out.1,←HR3.out.2]
        exact ⟨_,_,_,_,rfl,hq,hr,yf⟩
     ·have hr: -q2=x/y∧r2=x%y:=by
       have h9:=HFQ.out
       rw [if_neg (show ¬decide (x<0)=decide (y<0) from hs)] at h9;exact h9
      have hb:(zneg x !=zneg y)=true:=by simpa using hs
      have hb1:(zneg x==zneg y)=false:=by simpa using hs
      have HR:=hid hr
      have hNQw:=hid hNQ
      clear hs hr hNQ
      go_upto_if 147 with fail
      go_cut [] (fun wx=> ∃q3:Int,(q3=x/y∧r2=x%y)∧DG 47 3 gS gQ gR w1 l q3 r2 wx)
      case first=>
       go_wp2_with (go_at_call 78;(with_reducible refine (zneg_any _ _ _ _ hNQw.out).mono ?_);rintro e wn ⟨aon,capn,rfl,hNn,hbn⟩;have hDGn:=DG.below hDGw.out hbn;obtain ⟨_,_,⟨kn0,kn1,fn0,fn1,_⟩,_⟩:=id hDGn.2.1)
       go_meet
       exact ⟨-q2,HR.out,DG.setQ HDO.out hne hDGn hNn⟩
      case rest=>
       obtain ⟨q3,hr3,hDG⟩:=hcut
       have z45:=G4w.out _ hDG.1
       obtain ⟨⟨k40,k41,f40,f41,s4⟩,⟨k50,k51,f50,f51,s5⟩⟩:=z45
       obtain ⟨aoQ,capQ,zQ,hNQ⟩:=id hDG.2.1
       obtain ⟨aoR,capR,zR,hNR⟩:=id hDG.2.2.1
       obtain ⟨kQ0,kQ1,-,-,-⟩:=id zQ
       obtain ⟨kR0,kR1,-,-,-⟩:=id zR
       have o1:=HDO.out.2.1
       have o2:=HDO.out.2.2.1
       have o3:=HDO.out.2.2.2
       have yw:Below w.heap.size w wc:=below_trans yb1 hDG.2.2.2
       have n1:gQ≠w.heap.size+1+1:=by omega
       have n2:gQ≠w.heap.size+1+1+1:=by omega
       have n3:gR≠w.heap.size+1+1:=by omega
       have n4:gR≠w.heap.size+1+1+1:=by omega
       have HR3:=hid hr3
       have hNQw:=hid hNQ
       have hNRw:=hid hNR
       have yww:=hid yw
       clear hr3 zQ zR hDG G4w HDO HFQ yb1 HM HLY HN HY HDF hDGw HR o1 o2 o3 hl1 hlt hltA hltY hNQ hNR yw
       go_upto_region 33 with fail
       go_cut [] (fun wx=> ∃ao cap bo cbp,Nz 3 wx ao cap (zl q3)∧Nz 3 wx bo cbp (zl r2)∧Below w.heap.size w wx∧ZL 47 wx (w.heap.size+1+1) (zneg q3) (.slice ao (zl q3).length cap)∧ZL 47 wx (w.heap.size+1+1+1) (zneg r2) (.slice bo (zl r2).length cbp))
       case first=>
        go_region
        all_goals
         go_wp2_with fail
         go_meet
         exact ⟨_,_,_,_,Nz.below ((hNQw.out.st2 s4 hne _ _).st2 (s5.st2 _ _ _) hne _ _) (Below.drew (Below.refl _ _)),Nz.below ((hNRw.out.st2 s4 hne _ _).st2 (s5.st2 _ _ _) hne _ _) (Below.drew (Below.refl _ _)),((((yww.out.setCell (by first|omega|(simp;done)|(simp;omega)) _).setCell (by first|omega|(simp;done)|(simp;omega)) _).setCell (by first|omega|(simp;done)|(simp;omega)) _).setCell (by first|omega|(simp;done)|(simp;omega)) _).drew,ZL.drew (((ZL.set1 (ZL.set0 ⟨k40,k41,f40,f41,s4⟩ _) _).far _ _ (by first|omega|(simp;done)|(simp;omega))).far _ _ (by first|omega|(simp;done)|(simp;omega))),ZL.drew (ZL.set1 (ZL.set0 (((ZL.far ⟨k50,k51,f50,f51,s5⟩ _ _ (by first|omega|(simp;done)|(simp;omega)))).far _ _ (by first|omega|(simp;done)|(simp;omega))) _) _)⟩
       case rest=>
        obtain ⟨ao,cap,bo,cbp,hq,hr,yf,⟨j40,j41,-,-,-⟩,⟨j50,j51,-,-,-⟩⟩:=hcut
        have HJ:=hid (And.intro (And.intro j40 j41) (And.intro j50 j51))
        have HQ9:=hid (And.intro hq (And.intro hr yf))
        clear k40 k41 f40 f41 s4 k50 k51 f50 f51 s5 kQ0 kQ1 kR0 kR1 j40 j41 j50 j51 hq hr yf kBv0 kBv1 kAv0 kAv1 kA0 kA1 kY0 kY1 hH1 hH2 n1 n2 n3 n4 hNQw hNRw yww bd1 bd2 hp1 hYp hl0 hlp hn1 hR lqv hDGw
        rename_i K9 hK9
        refine hK9 _ _ ?_
        refine wp_ret ?_
        obtain ⟨⟨j40,j41⟩,⟨j50,j51⟩⟩:=HJ.out
        obtain ⟨hq,hr,yf⟩:=HQ9.out
        refine bodyPost_ret (by simp [results,Tryz.results97,go_sem,j40,j41,j50,j51];try rfl) rfl ?_
        rw [←HR3.out.1,←HR3.out.2]
        exact ⟨_,_,_,_,rfl,hq,hr,yf⟩
end Go.Proofs.YtehhegbkahnhgaaGreatDoor
namespace Go.Ulp
open Go.RowKit
def ZD2 (t:TypeId) (w:World) (x y:Int) (v:Value):Prop:=
 ∃ao cap bo cbp,v=.tuple #[.agg #[.bool (zneg x),.slice ao (zl x).length cap],.agg #[.bool (zneg y),.slice bo (zl y).length cbp]]∧Nz t w ao cap (zl x)∧Nz t w bo cbp (zl y)
def Fact.z2 (t:TypeId) (x y:Int):Fact:=⟨fun v w=>ZD2 t w x y v,fun _ _ _ h hb=>by
 obtain ⟨ao,cap,bo,cbp,h1,h2,h3⟩:=h;exact ⟨ao,cap,bo,cbp,h1,h2.below hb,h3.below hb⟩⟩
def Fact.z0 (B:Nat) (t:TypeId):Fact:=⟨fun v w=> ∃g,v=.pointer (some ⟨g,0,none⟩)∧B≤g∧ZL t w g false (.slice none 0 0),fun _ _ _ h hb=>by
 obtain ⟨g,h1,h2,h3⟩:=h;exact ⟨g,h1,h2,h3.below hb⟩⟩
end Go.Ulp
namespace Go.Proofs.YtehhegbkahnhgaaGreatDoor
open Go.RowKit Go.Ulp
set_option maxHeartbeats 4000000
set_option maxRecDepth 100000
end Go.Proofs.YtehhegbkahnhgaaGreatDoor
