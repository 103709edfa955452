/- SeriesLog: what the proof leans on, part 14 (Q3 Q5 Dn2 Nat13b). -/
import Derived.Shelf.Spec.TrailingZeros
import Derived.Deep.DeepCutAuto
import Derived.Deep.CutBlock
import Derived.Test.YtehhegbkahnhgaaDoorKSeriesLog5
import Derived.Test.YtehhegbkahnhgaaDoorKSeriesLog7
import Derived.Test.YtehhegbkahnhgaaDoorKSeriesLog8
import Derived.Test.YtehhegbkahnhgaaDoorKSeriesLog9
import Derived.Test.YtehhegbkahnhgaaDoorKSeriesLog11
import Derived.Test.YtehhegbkahnhgaaDoorKSeriesLog13
set_option linter.unusedVariables false
set_option linter.unusedSimpArgs false
namespace Go.Ulp
open Go.RowKit
def RetL (t:TypeId) (w:World) (x y n:Int) (e:Ending) (w':World):Prop:=
 ∃ao cap bo cbp,e=.returned (.tuple #[.agg #[.bool (zneg x),.slice ao (zl x).length cap],.agg #[.bool (zneg y),.slice bo (zl y).length cbp],.int .i64 n])∧Nz t w' ao cap (zl x)∧Nz t w' bo cbp (zl y)∧Below w.heap.size w w'
theorem Nz.drew {e:TypeId} {w:World} {ao:Option Addr} {cap:Nat} {L:List Nat} (h:Nz e w ao cap L):Nz e w.drew ao cap L:=h.below (Below.drew (Below.refl _ _))
theorem ElemIs.set2 {w:World} {b:Nat} {t:TypeId} (h:ElemIs w b t) (g:Nat) (u v:Value):ElemIs ((w.setCell ⟨g,0,none⟩ u).setCell ⟨g,1,none⟩ v) b t:=(h.setCell _ _).setCell _ _
theorem Nz.set2 {e t:TypeId} {w:World} {ao:Option Addr} {cap:Nat} {L:List Nat} (h:Nz e w ao cap L) {g:Nat} (hs:ElemIs w g t) (hne:t≠e) (u v:Value):Nz e ((w.setCell ⟨g,0,none⟩ u).setCell ⟨g,1,none⟩ v) ao cap L:=
 (h.setCell hs hne 0 u).setCell (hs.setCell _ _) hne 1 v
theorem wp_world {P:Program} {c:Code} {Q:Exit→Act→World→Prop} {a:Act} {w0:World} (F:World→Prop) (hF:F w0) (h: ∀w,F w→Code.wp P c Q a w):Code.wp P c Q a w0:=h w0 hF
end Go.Ulp
namespace Go.Proofs.YtehhegbkahnhgaaDoor
open Go.RowKit Go.Ulp
set_option maxHeartbeats 1000000
set_option maxRecDepth 100000
theorem level_eq (a0 a1:Option Addr) (c0 c1:Nat) (x y:Int) (t:Nat) (w:World) (h0:Nz 3 w a0 c0 (zl x)) (h1:Nz 3 w a1 c1 (zl y)):
 Calls Tryd.prog 26 #[.agg #[.bool (zneg x),.slice a0 (zl x).length c0,.int .i64 (t:Int)],.agg #[.bool (zneg y),.slice a1 (zl y).length c1,.int .i64 (t:Int)]] w fun e w'=>RetL 3 w x y t e w':=by
 have hm:max (t:Int) (t:Int)=t:=by omega
 go_enter Tryd.func26,Tryd.ntmps26
 go_wp2_with fail
 go_region
 all_goals go_wp2_with fail
 all_goals go_region
 all_goals go_wp2_with fail
 all_goals
  refine bodyPost_ret (by simp [results,Tryd.results26,go_sem];try rfl) rfl ?_
  exact ⟨_,_,_,_,rfl,h0.below (by (repeat' first|(with_reducible first|apply bR|assumption|apply bN|apply bD|apply bL|apply bS)|go_size)),h1.below (by (repeat' first|(with_reducible first|apply bR|assumption|apply bN|apply bD|apply bL|apply bS)|go_size)),by (repeat' first|(with_reducible first|apply bR|assumption|apply bN|apply bD|apply bL|apply bS)|go_size)⟩
theorem level_lt (a0 a1:Option Addr) (c0 c1:Nat) (x y:Int) (ta tb d:Nat) (w:World) (h0:Nz 3 w a0 c0 (zl x)) (h1:Nz 3 w a1 c1 (zl y)) (hd:tb=ta+d) (hp:0<d) (hl:(zl x).length≤1073741824) (hs:d≤100000000) (hs2:ta≤1000000000000):
 Calls Tryd.prog 26 #[.agg #[.bool (zneg x),.slice a0 (zl x).length c0,.int .i64 (ta:Int)],.agg #[.bool (zneg y),.slice a1 (zl y).length c1,.int .i64 (tb:Int)]] w fun e w'=>RetL 3 w (x*pw d) y tb e w':=by
 have hm:max (ta:Int) (tb:Int)=tb:=by omega
 have hd2:(tb:Int)-(ta:Int)=(d:Int):=by omega
 have hlt:(ta:Int)<(tb:Int):=by omega
 have hw:IntKind.i64.wrap (d:Int)=(d:Int):=IntWalk.i64_in _ (by omega)
 have hne:(32:TypeId)≠3:=by decide
 clear hd
 go_enter Tryd.func26,Tryd.ntmps26
 go_wp2_with fail
 go_region
 all_goals go_wp2_with fail
 ·refine wp_world (fun W=>QL 34 W w.heap.size (zneg x) (.slice a0 (zl x).length c0) ta∧QL 34 W (w.heap.size+1) (zneg y) (.slice a1 (zl y).length c1) tb∧ZL 32 W (w.heap.size+1+1) false (.slice none 0 0)∧ZL 32 W (w.heap.size+1+1+1) false (.slice none 0 0)∧ZL 32 W (w.heap.size+1+1+1+1) (zneg x) (.slice a0 (zl x).length c0)∧ZL 32 W (w.heap.size+1+1+1+1+1) (zneg y) (.slice a1 (zl y).length c1)∧Below w.heap.size w W) ⟨QL.drew ((((((QL.made rfl).alloc _).alloc _).alloc _).alloc _).alloc _),QL.drew (((((QL.made (by first|omega|(simp;done)|(simp;omega))).alloc _).alloc _).alloc _).alloc _),ZL.drew ((((ZL.made (by first|omega|(simp;done)|(simp;omega))).alloc _).alloc _).alloc _),ZL.drew (((ZL.made (by first|omega|(simp;done)|(simp;omega))).alloc _).alloc _),ZL.drew ((ZL.made (by first|omega|(simp;done)|(simp;omega))).alloc _),ZL.drew (ZL.made (by first|omega|(simp;done)|(simp;omega))),by (repeat' first|(with_reducible first|apply bR|assumption|apply bN|apply bD|apply bL|apply bS)|go_size)⟩ ?_
  rintro W ⟨zA,zB,z1,z2,zX,zY,yb⟩
  have zAd:=zA.drew
  have zBd:=zB.drew
  have z1d:=z1.drew
  have z2d:=z2.drew
  have zXd:=zX.drew
  have zYd:=zY.drew
  have ybd:=yb.drew
  obtain ⟨⟨kA0,kA1,-,-,-⟩,kA2,-⟩:=zA
  obtain ⟨kX0,kX1,fX0,fX1,-⟩:=zX
  obtain ⟨kY0,kY1,-,-,-⟩:=zY
  go_region_with (first|(go_at_call 32;(with_reducible refine (zpow_any d _ (by omega)).mono ?_);rintro e wn ⟨aon,capn,rfl,hNn,hbn⟩;have h0n:=Nz.below (w':=wn) h0 (by (repeat' first|(with_reducible first|assumption|apply bR|apply bA|apply bN|apply bD|apply bL|apply bS)|refine bT ?_ (by assumption)|go_size));have zXn:=ZL.below (w':=wn) zXd (by (repeat' first|(with_reducible first|assumption|apply bR|apply bA|apply bN|apply bD|apply bL|apply bS)|refine bT ?_ (by assumption)|go_size));have kn0:=zXn.1;have kn1:=zXn.2.1)|(go_at_call 31;(with_reducible refine (zmul_any _ _ _ _ _ _ _ (by assumption) (by assumption) hl (Nat.le_trans (zl_len_pw _) (by omega))).mono ?_);rintro e wn ⟨aon,capn,rfl,hNn,hbn⟩;have zXn:=ZL.below (w':=wn) zXd (by (repeat' first|(with_reducible first|assumption|apply bR|apply bA|apply bN|apply bD|apply bL|apply bS)|refine bT ?_ (by assumption)|go_size));have zYn:=ZL.below (w':=wn) zYd (by (repeat' first|(with_reducible first|assumption|apply bR|apply bA|apply bN|apply bD|apply bL|apply bS)|refine bT ?_ (by assumption)|go_size));have zBn:=QL.below (w':=wn) zBd (by (repeat' first|(with_reducible first|assumption|apply bR|apply bA|apply bN|apply bD|apply bL|apply bS)|refine bT ?_ (by assumption)|go_size));have z1n:=ZL.below (w':=wn) z1d (by (repeat' first|(with_reducible first|assumption|apply bR|apply bA|apply bN|apply bD|apply bL|apply bS)|refine bT ?_ (by assumption)|go_size));have z2n:=ZL.below (w':=wn) z2d (by (repeat' first|(with_reducible first|assumption|apply bR|apply bA|apply bN|apply bD|apply bL|apply bS)|refine bT ?_ (by assumption)|go_size));have h1n:=Nz.below (w':=wn) h1 (by (repeat' first|(with_reducible first|assumption|apply bR|apply bA|apply bN|apply bD|apply bL|apply bS)|refine bT ?_ (by assumption)|go_size));have ybn:Below w.heap.size w wn:=(by (repeat' first|(with_reducible first|assumption|apply bR|apply bA|apply bN|apply bD|apply bL|apply bS)|refine bT ?_ (by assumption)|go_size));have k0:=zXn.1;have k1:=zXn.2.1;have f0:=zXn.2.2.1;have f1:=zXn.2.2.2.1))
  all_goals
   have hsX:=zXn.2.2.2.2
   have zY2:=(zYn.far ⟨(w.heap.size+1+1+1+1),0,none⟩ (.bool (zneg (x*pw d))) (by first|omega|(simp;done)|(simp;omega))).far ⟨(w.heap.size+1+1+1+1),1,none⟩ (.slice aon (zl (x*pw d)).length capn) (by first|omega|(simp;done)|(simp;omega))
   have hN2:=(hNn.setCell hsX (by decide) 0 (.bool (zneg (x*pw d)))).setCell (hsX.setCell _ _) (by decide) 1 (.slice aon (zl (x*pw d)).length capn)
   have kB2:=zBn.2.1
   obtain ⟨kY0n,kY1n,-,-,-⟩:=zYn
   obtain ⟨k10,k11,f10,f11,hsR1⟩:=z1n
   obtain ⟨k20,k21,f20,f21,hsR2⟩:=z2n
   go_wp2_with fail
   go_region
   all_goals
    go_wp2_with fail
    refine bodyPost_ret (by simp [results,Tryd.results26,go_sem,k10,k11,k20,k21];try rfl) rfl ?_
    exact ⟨_,_,_,_,rfl,((hN2.set2 (hsR1.set2 _ _ _) hne _ _).set2 ((hsR2.set2 _ _ _).set2 _ _ _) hne _ _).drew,(((h1n.set2 hsX hne _ _).set2 (hsR1.set2 _ _ _) hne _ _).set2 ((hsR2.set2 _ _ _).set2 _ _ _) hne _ _).drew,by (repeat' first|(with_reducible first|assumption|apply bR|apply bA|apply bN|apply bD|apply bL|apply bS)|refine bT ?_ (by assumption)|go_size)⟩
 ·refine wp_world (fun W=>QL 34 W w.heap.size (zneg x) (.slice a0 (zl x).length c0) ta∧QL 34 W (w.heap.size+1) (zneg y) (.slice a1 (zl y).length c1) tb∧ZL 32 W (w.heap.size+1+1) false (.slice none 0 0)∧ZL 32 W (w.heap.size+1+1+1) false (.slice none 0 0)∧ZL 32 W (w.heap.size+1+1+1+1+1) (zneg x) (.slice a0 (zl x).length c0)∧ZL 32 W (w.heap.size+1+1+1+1) (zneg y) (.slice a1 (zl y).length c1)∧Below w.heap.size w W) ⟨QL.drew ((((((QL.made rfl).alloc _).alloc _).alloc _).alloc _).alloc _),QL.drew (((((QL.made (by first|omega|(simp;done)|(simp;omega))).alloc _).alloc _).alloc _).alloc _),ZL.drew ((((ZL.made (by first|omega|(simp;done)|(simp;omega))).alloc _).alloc _).alloc _),ZL.drew (((ZL.made (by first|omega|(simp;done)|(simp;omega))).alloc _).alloc _),ZL.drew (ZL.made (by first|omega|(simp;done)|(simp;omega))),ZL.drew ((ZL.made (by first|omega|(simp;done)|(simp;omega))).alloc _),by (repeat' first|(with_reducible first|apply bR|assumption|apply bN|apply bD|apply bL|apply bS)|go_size)⟩ ?_
  rintro W ⟨zA,zB,z1,z2,zX,zY,yb⟩
  have zAd:=zA.drew
  have zBd:=zB.drew
  have z1d:=z1.drew
  have z2d:=z2.drew
  have zXd:=zX.drew
  have zYd:=zY.drew
  have ybd:=yb.drew
  obtain ⟨⟨kA0,kA1,-,-,-⟩,kA2,-⟩:=zA
  obtain ⟨kX0,kX1,fX0,fX1,-⟩:=zX
  obtain ⟨kY0,kY1,-,-,-⟩:=zY
  go_region_with (first|(go_at_call 32;(with_reducible refine (zpow_any d _ (by omega)).mono ?_);rintro e wn ⟨aon,capn,rfl,hNn,hbn⟩;have h0n:=Nz.below (w':=wn) h0 (by (repeat' first|(with_reducible first|assumption|apply bR|apply bA|apply bN|apply bD|apply bL|apply bS)|refine bT ?_ (by assumption)|go_size));have zXn:=ZL.below (w':=wn) zXd (by (repeat' first|(with_reducible first|assumption|apply bR|apply bA|apply bN|apply bD|apply bL|apply bS)|refine bT ?_ (by assumption)|go_size));have kn0:=zXn.1;have kn1:=zXn.2.1)|(go_at_call 31;(with_reducible refine (zmul_any _ _ _ _ _ _ _ (by assumption) (by assumption) hl (Nat.le_trans (zl_len_pw _) (by omega))).mono ?_);rintro e wn ⟨aon,capn,rfl,hNn,hbn⟩;have zXn:=ZL.below (w':=wn) zXd (by (repeat' first|(with_reducible first|assumption|apply bR|apply bA|apply bN|apply bD|apply bL|apply bS)|refine bT ?_ (by assumption)|go_size));have zYn:=ZL.below (w':=wn) zYd (by (repeat' first|(with_reducible first|assumption|apply bR|apply bA|apply bN|apply bD|apply bL|apply bS)|refine bT ?_ (by assumption)|go_size));have zBn:=QL.below (w':=wn) zBd (by (repeat' first|(with_reducible first|assumption|apply bR|apply bA|apply bN|apply bD|apply bL|apply bS)|refine bT ?_ (by assumption)|go_size));have z1n:=ZL.below (w':=wn) z1d (by (repeat' first|(with_reducible first|assumption|apply bR|apply bA|apply bN|apply bD|apply bL|apply bS)|refine bT ?_ (by assumption)|go_size));have z2n:=ZL.below (w':=wn) z2d (by (repeat' first|(with_reducible first|assumption|apply bR|apply bA|apply bN|apply bD|apply bL|apply bS)|refine bT ?_ (by assumption)|go_size));have h1n:=Nz.below (w':=wn) h1 (by (repeat' first|(with_reducible first|assumption|apply bR|apply bA|apply bN|apply bD|apply bL|apply bS)|refine bT ?_ (by assumption)|go_size));have ybn:Below w.heap.size w wn:=(by (repeat' first|(with_reducible first|assumption|apply bR|apply bA|apply bN|apply bD|apply bL|apply bS)|refine bT ?_ (by assumption)|go_size));have k0:=zXn.1;have k1:=zXn.2.1;have f0:=zXn.2.2.1;have f1:=zXn.2.2.2.1))
  all_goals
   have hsX:=zXn.2.2.2.2
   have zY2:=(zYn.far ⟨(w.heap.size+1+1+1+1+1),0,none⟩ (.bool (zneg (x*pw d))) (by first|omega|(simp;done)|(simp;omega))).far ⟨(w.heap.size+1+1+1+1+1),1,none⟩ (.slice aon (zl (x*pw d)).length capn) (by first|omega|(simp;done)|(simp;omega))
   have hN2:=(hNn.setCell hsX (by decide) 0 (.bool (zneg (x*pw d)))).setCell (hsX.setCell _ _) (by decide) 1 (.slice aon (zl (x*pw d)).length capn)
   have kB2:=zBn.2.1
   obtain ⟨kY0n,kY1n,-,-,-⟩:=zYn
   obtain ⟨k10,k11,f10,f11,hsR1⟩:=z1n
   obtain ⟨k20,k21,f20,f21,hsR2⟩:=z2n
   go_wp2_with fail
   go_region
   all_goals
    go_wp2_with fail
    refine bodyPost_ret (by simp [results,Tryd.results26,go_sem,k10,k11,k20,k21];try rfl) rfl ?_
    exact ⟨_,_,_,_,rfl,((hN2.set2 (hsR1.set2 _ _ _) hne _ _).set2 ((hsR2.set2 _ _ _).set2 _ _ _) hne _ _).drew,(((h1n.set2 hsX hne _ _).set2 (hsR1.set2 _ _ _) hne _ _).set2 ((hsR2.set2 _ _ _).set2 _ _ _) hne _ _).drew,by (repeat' first|(with_reducible first|assumption|apply bR|apply bA|apply bN|apply bD|apply bL|apply bS)|refine bT ?_ (by assumption)|go_size)⟩
theorem level_gt (a0 a1:Option Addr) (c0 c1:Nat) (x y:Int) (ta tb d:Nat) (w:World) (h0:Nz 3 w a0 c0 (zl x)) (h1:Nz 3 w a1 c1 (zl y)) (hd:ta=tb+d) (hp:0<d) (hl:(zl y).length≤1073741824) (hs:d≤100000000) (hs2:ta≤1000000000000):
 Calls Tryd.prog 26 #[.agg #[.bool (zneg x),.slice a0 (zl x).length c0,.int .i64 (ta:Int)],.agg #[.bool (zneg y),.slice a1 (zl y).length c1,.int .i64 (tb:Int)]] w fun e w'=>RetL 3 w x (y*pw d) ta e w':=by
 have hm:max (ta:Int) (tb:Int)=ta:=by omega
 have hd2:(ta:Int)-(tb:Int)=(d:Int):=by omega
 have hlt:(tb:Int)<(ta:Int):=by omega
 have hw:IntKind.i64.wrap (d:Int)=(d:Int):=IntWalk.i64_in _ (by omega)
 have hne:(32:TypeId)≠3:=by decide
 clear hd
 go_enter Tryd.func26,Tryd.ntmps26
 go_wp2_with fail
 go_region
 all_goals go_wp2_with fail
 ·refine wp_world (fun W=>QL 34 W w.heap.size (zneg x) (.slice a0 (zl x).length c0) ta∧QL 34 W (w.heap.size+1) (zneg y) (.slice a1 (zl y).length c1) tb∧ZL 32 W (w.heap.size+1+1) false (.slice none 0 0)∧ZL 32 W (w.heap.size+1+1+1) false (.slice none 0 0)∧ZL 32 W (w.heap.size+1+1+1+1) (zneg x) (.slice a0 (zl x).length c0)∧ZL 32 W (w.heap.size+1+1+1+1+1) (zneg y) (.slice a1 (zl y).length c1)∧Below w.heap.size w W) ⟨QL.drew ((((((QL.made rfl).alloc _).alloc _).alloc _).alloc _).alloc _),QL.drew (((((QL.made (by first|omega|(simp;done)|(simp;omega))).alloc _).alloc _).alloc _).alloc _),ZL.drew ((((ZL.made (by first|omega|(simp;done)|(simp;omega))).alloc _).alloc _).alloc _),ZL.drew (((ZL.made (by first|omega|(simp;done)|(simp;omega))).alloc _).alloc _),ZL.drew ((ZL.made (by first|omega|(simp;done)|(simp;omega))).alloc _),ZL.drew (ZL.made (by first|omega|(simp;done)|(simp;omega))),by (repeat' first|(with_reducible first|apply bR|assumption|apply bN|apply bD|apply bL|apply bS)|go_size)⟩ ?_
  rintro W ⟨zA,zB,z1,z2,zX,zY,yb⟩
  have zAd:=zA.drew
  have zBd:=zB.drew
  have z1d:=z1.drew
  have z2d:=z2.drew
  have zXd:=zX.drew
  have zYd:=zY.drew
  have ybd:=yb.drew
  obtain ⟨⟨kA0,kA1,-,-,-⟩,kA2,-⟩:=zA
  obtain ⟨⟨kB0,kB1,-,-,-⟩,kB2,-⟩:=zB
  obtain ⟨kX0,kX1,-,-,-⟩:=zX
  obtain ⟨kY0,kY1,fY0,fY1,-⟩:=zY
  go_wp2_with fail
  go_region_with (first|(go_at_call 32;(with_reducible refine (zpow_any d _ (by omega)).mono ?_);rintro e wn ⟨aon,capn,rfl,hNn,hbn⟩;have h1n:=Nz.below (w':=wn) h1 (by (repeat' first|(with_reducible first|assumption|apply bR|apply bA|apply bN|apply bD|apply bL|apply bS)|refine bT ?_ (by assumption)|go_size));have zYn:=ZL.below (w':=wn) zYd (by (repeat' first|(with_reducible first|assumption|apply bR|apply bA|apply bN|apply bD|apply bL|apply bS)|refine bT ?_ (by assumption)|go_size));have kn0:=zYn.1;have kn1:=zYn.2.1)|(go_at_call 31;(with_reducible refine (zmul_any _ _ _ _ _ _ _ (by assumption) (by assumption) hl (Nat.le_trans (zl_len_pw _) (by omega))).mono ?_);rintro e wn ⟨aon,capn,rfl,hNn,hbn⟩;have zXn:=ZL.below (w':=wn) zXd (by (repeat' first|(with_reducible first|assumption|apply bR|apply bA|apply bN|apply bD|apply bL|apply bS)|refine bT ?_ (by assumption)|go_size));have zYn:=ZL.below (w':=wn) zYd (by (repeat' first|(with_reducible first|assumption|apply bR|apply bA|apply bN|apply bD|apply bL|apply bS)|refine bT ?_ (by assumption)|go_size));have z1n:=ZL.below (w':=wn) z1d (by (repeat' first|(with_reducible first|assumption|apply bR|apply bA|apply bN|apply bD|apply bL|apply bS)|refine bT ?_ (by assumption)|go_size));have z2n:=ZL.below (w':=wn) z2d (by (repeat' first|(with_reducible first|assumption|apply bR|apply bA|apply bN|apply bD|apply bL|apply bS)|refine bT ?_ (by assumption)|go_size));have h0n:=Nz.below (w':=wn) h0 (by (repeat' first|(with_reducible first|assumption|apply bR|apply bA|apply bN|apply bD|apply bL|apply bS)|refine bT ?_ (by assumption)|go_size));have ybn:Below w.heap.size w wn:=(by (repeat' first|(with_reducible first|assumption|apply bR|apply bA|apply bN|apply bD|apply bL|apply bS)|refine bT ?_ (by assumption)|go_size));have k0:=zYn.1;have k1:=zYn.2.1;have f0:=zYn.2.2.1;have f1:=zYn.2.2.2.1))
  all_goals
   have hsY:=zYn.2.2.2.2
   have hN2:=(hNn.setCell hsY hne 0 (.bool (zneg (y*pw d)))).setCell (hsY.setCell _ _) hne 1 (.slice aon (zl (y*pw d)).length capn)
   obtain ⟨kX0n,kX1n,-,-,-⟩:=zXn
   obtain ⟨k10,k11,f10,f11,hsR1⟩:=z1n
   obtain ⟨k20,k21,f20,f21,hsR2⟩:=z2n
   go_wp2_with fail
   go_region
   all_goals
    go_wp2_with fail
    refine bodyPost_ret (by simp [results,Tryd.results26,go_sem,k10,k11,k20,k21];try rfl) rfl ?_
    exact ⟨_,_,_,_,rfl,(((h0n.set2 hsY hne _ _).set2 (hsR1.set2 _ _ _) hne _ _).set2 ((hsR2.set2 _ _ _).set2 _ _ _) hne _ _).drew,((hN2.set2 (hsR1.set2 _ _ _) hne _ _).set2 ((hsR2.set2 _ _ _).set2 _ _ _) hne _ _).drew,by (repeat' first|(with_reducible first|assumption|apply bR|apply bA|apply bN|apply bD|apply bL|apply bS)|refine bT ?_ (by assumption)|go_size)⟩
 ·refine wp_world (fun W=>QL 34 W w.heap.size (zneg x) (.slice a0 (zl x).length c0) ta∧QL 34 W (w.heap.size+1) (zneg y) (.slice a1 (zl y).length c1) tb∧ZL 32 W (w.heap.size+1+1) false (.slice none 0 0)∧ZL 32 W (w.heap.size+1+1+1) false (.slice none 0 0)∧ZL 32 W (w.heap.size+1+1+1+1+1) (zneg x) (.slice a0 (zl x).length c0)∧ZL 32 W (w.heap.size+1+1+1+1) (zneg y) (.slice a1 (zl y).length c1)∧Below w.heap.size w W) ⟨QL.drew ((((((QL.made rfl).alloc _).alloc _).alloc _).alloc _).alloc _),QL.drew (((((QL.made (by first|omega|(simp;done)|(simp;omega))).alloc _).alloc _).alloc _).alloc _),ZL.drew ((((ZL.made (by first|omega|(simp;done)|(simp;omega))).alloc _).alloc _).alloc _),ZL.drew (((ZL.made (by first|omega|(simp;done)|(simp;omega))).alloc _).alloc _),ZL.drew (ZL.made (by first|omega|(simp;done)|(simp;omega))),ZL.drew ((ZL.made (by first|omega|(simp;done)|(simp;omega))).alloc _),by (repeat' first|(with_reducible first|apply bR|assumption|apply bN|apply bD|apply bL|apply bS)|go_size)⟩ ?_
  rintro W ⟨zA,zB,z1,z2,zX,zY,yb⟩
  have zAd:=zA.drew
  have zBd:=zB.drew
  have z1d:=z1.drew
  have z2d:=z2.drew
  have zXd:=zX.drew
  have zYd:=zY.drew
  have ybd:=yb.drew
  obtain ⟨⟨kA0,kA1,-,-,-⟩,kA2,-⟩:=zA
  obtain ⟨⟨kB0,kB1,-,-,-⟩,kB2,-⟩:=zB
  obtain ⟨kX0,kX1,-,-,-⟩:=zX
  obtain ⟨kY0,kY1,fY0,fY1,-⟩:=zY
  go_wp2_with fail
  go_region_with (first|(go_at_call 32;(with_reducible refine (zpow_any d _ (by omega)).mono ?_);rintro e wn ⟨aon,capn,rfl,hNn,hbn⟩;have h1n:=Nz.below (w':=wn) h1 (by (repeat' first|(with_reducible first|assumption|apply bR|apply bA|apply bN|apply bD|apply bL|apply bS)|refine bT ?_ (by assumption)|go_size));have zYn:=ZL.below (w':=wn) zYd (by (repeat' first|(with_reducible first|assumption|apply bR|apply bA|apply bN|apply bD|apply bL|apply bS)|refine bT ?_ (by assumption)|go_size));have kn0:=zYn.1;have kn1:=zYn.2.1)|(go_at_call 31;(with_reducible refine (zmul_any _ _ _ _ _ _ _ (by assumption) (by assumption) hl (Nat.le_trans (zl_len_pw _) (by omega))).mono ?_);rintro e wn ⟨aon,capn,rfl,hNn,hbn⟩;have zXn:=ZL.below (w':=wn) zXd (by (repeat' first|(with_reducible first|assumption|apply bR|apply bA|apply bN|apply bD|apply bL|apply bS)|refine bT ?_ (by assumption)|go_size));have zYn:=ZL.below (w':=wn) zYd (by (repeat' first|(with_reducible first|assumption|apply bR|apply bA|apply bN|apply bD|apply bL|apply bS)|refine bT ?_ (by assumption)|go_size));have z1n:=ZL.below (w':=wn) z1d (by (repeat' first|(with_reducible first|assumption|apply bR|apply bA|apply bN|apply bD|apply bL|apply bS)|refine bT ?_ (by assumption)|go_size));have z2n:=ZL.below (w':=wn) z2d (by (repeat' first|(with_reducible first|assumption|apply bR|apply bA|apply bN|apply bD|apply bL|apply bS)|refine bT ?_ (by assumption)|go_size));have h0n:=Nz.below (w':=wn) h0 (by (repeat' first|(with_reducible first|assumption|apply bR|apply bA|apply bN|apply bD|apply bL|apply bS)|refine bT ?_ (by assumption)|go_size));have ybn:Below w.heap.size w wn:=(by (repeat' first|(with_reducible first|assumption|apply bR|apply bA|apply bN|apply bD|apply bL|apply bS)|refine bT ?_ (by assumption)|go_size));have k0:=zYn.1;have k1:=zYn.2.1;have f0:=zYn.2.2.1;have f1:=zYn.2.2.2.1))
  all_goals
   have hsY:=zYn.2.2.2.2
   have hN2:=(hNn.setCell hsY hne 0 (.bool (zneg (y*pw d)))).setCell (hsY.setCell _ _) hne 1 (.slice aon (zl (y*pw d)).length capn)
   obtain ⟨kX0n,kX1n,-,-,-⟩:=zXn
   obtain ⟨k10,k11,f10,f11,hsR1⟩:=z1n
   obtain ⟨k20,k21,f20,f21,hsR2⟩:=z2n
   go_wp2_with fail
   go_region
   all_goals
    go_wp2_with fail
    refine bodyPost_ret (by simp [results,Tryd.results26,go_sem,k10,k11,k20,k21];try rfl) rfl ?_
    exact ⟨_,_,_,_,rfl,(((h0n.set2 hsY hne _ _).set2 (hsR1.set2 _ _ _) hne _ _).set2 ((hsR2.set2 _ _ _).set2 _ _ _) hne _ _).drew,((hN2.set2 (hsR1.set2 _ _ _) hne _ _).set2 ((hsR2.set2 _ _ _).set2 _ _ _) hne _ _).drew,by (repeat' first|(with_reducible first|assumption|apply bR|apply bA|apply bN|apply bD|apply bL|apply bS)|refine bT ?_ (by assumption)|go_size)⟩
end Go.Proofs.YtehhegbkahnhgaaDoor
namespace Go.Ulp
open Go.RowKit
def QD (t:TypeId) (w:World) (D:Dy) (A T:Nat) (v:Value):Prop:=
 ∃(x:Int) (n:Nat) (ao:Option Addr) (cap:Nat),v=.agg #[.bool (zneg x),.slice ao (zl x).length cap,.int .i64 (n:Int)]∧Nz t w ao cap (zl x)∧nrm x (-(n:Int))=D∧x.natAbs<2^A∧n≤T
def RetQD (t:TypeId) (w:World) (D:Dy) (A T:Nat) (e:Ending) (w':World):Prop:=
 ∃v,e=.returned v∧QD t w' D A T v∧Below w.heap.size w w'
theorem QD.below {t:TypeId} {w w':World} {D:Dy} {A T:Nat} {v:Value} (h:QD t w D A T v) (hb:Below w.heap.size w w'):QD t w' D A T v:=by
 obtain ⟨x,n,ao,cap,h1,h2,h3⟩:=h
 exact ⟨x,n,ao,cap,h1,h2.below hb,h3⟩
theorem QD.weak {t:TypeId} {w:World} {D:Dy} {A T A' T':Nat} {v:Value} (h:QD t w D A T v) (hA:A≤A') (hT:T≤T'):QD t w D A' T' v:=by
 obtain ⟨x,n,ao,cap,h1,h2,h3,h4,h5⟩:=h
 exact ⟨x,n,ao,cap,h1,h2,h3,Nat.lt_of_lt_of_le h4 (Nat.pow_le_pow_right (by omega) hA),by omega⟩
theorem RetQD.weak {t:TypeId} {w:World} {D:Dy} {A T A' T':Nat} {e:Ending} {w':World} (h:RetQD t w D A T e w') (hA:A≤A') (hT:T≤T'):RetQD t w D A' T' e w':=by
 obtain ⟨v,h1,h2,h3⟩:=h
 exact ⟨v,h1,h2.weak hA hT,h3⟩
theorem RetQ.qd {t:TypeId} {w:World} {x:Int} {n:Nat} {e:Ending} {w':World} {D:Dy} {A T:Nat} (h:RetQ t w x n e w') (hD:nrm x (-(n:Int))=D) (hA:x.natAbs<2^A) (hT:n≤T):RetQD t w D A T e w':=by
 obtain ⟨ao,cap,h1,h2,h3⟩:=h
 exact ⟨_,h1,⟨x,n,ao,cap,rfl,h2,hD,hA,hT⟩,h3⟩
theorem sc_pw (x:Int) (n m:Nat) (h:n≤m):sc x (-(n:Int)) (-(m:Int))=x*pw (m-n):=by unfold sc;congr 2;omega
theorem abs_mul_pw_lt {x:Int} {A k:Nat} (h:x.natAbs<2^A):(x*pw k).natAbs<2^(A+k):=by
 rw [natAbs_mul_pw,Nat.pow_add];exact Nat.mul_lt_mul_of_pos_right h (Nat.two_pow_pos k)
theorem abs_weak {x:Int} {A B:Nat} (h:x.natAbs<2^A) (hAB:A≤B):x.natAbs<2^B:=Nat.lt_of_lt_of_le h (Nat.pow_le_pow_right (by omega) hAB)
end Go.Ulp
namespace Go.Proofs.YtehhegbkahnhgaaDoor
open Go.RowKit Go.Ulp
set_option maxHeartbeats 1000000
set_option maxRecDepth 100000
theorem level_any (a0 a1:Option Addr) (c0 c1:Nat) (x y:Int) (ta tb:Nat) (w:World) (h0:Nz 3 w a0 c0 (zl x)) (h1:Nz 3 w a1 c1 (zl y)) (hx:(zl x).length≤1073741824) (hy:(zl y).length≤1073741824) (hs:ta≤100000000) (hs2:tb≤100000000):
 Calls Tryd.prog 26 #[.agg #[.bool (zneg x),.slice a0 (zl x).length c0,.int .i64 (ta:Int)],.agg #[.bool (zneg y),.slice a1 (zl y).length c1,.int .i64 (tb:Int)]] w fun e w'=>RetL 3 w (x*pw (max ta tb-ta)) (y*pw (max ta tb-tb)) ((max ta tb:Nat):Int) e w':=by
 rcases Nat.lt_trichotomy ta tb with h|h|h
 ·have e1:max ta tb=tb:=by omega
  have:=level_lt a0 a1 c0 c1 x y ta tb (tb-ta) w h0 h1 (by omega) (by omega) hx (by omega) (by omega)
  rw [e1,Nat.sub_self,pw_zero,Int.mul_one];exact this
 ·subst h
  have:=level_eq a0 a1 c0 c1 x y ta w h0 h1
  rw [Nat.max_self,Nat.sub_self,pw_zero,Int.mul_one,Int.mul_one];exact this
 ·have e1:max ta tb=ta:=by omega
  have:=level_gt a0 a1 c0 c1 x y ta tb (ta-tb) w h0 h1 (by omega) (by omega) hy (by omega) (by omega)
  rw [e1,Nat.sub_self,pw_zero,Int.mul_one];exact this
theorem qcmp_any (v u:Value) (D E:Dy) (A T B S:Nat) (w:World) (hv:QD 3 w D A T v) (hu:QD 3 w E B S u) (hA:A≤1000000000) (hB:B≤1000000000) (hT:T≤100000000) (hS:S≤100000000):
 Calls Tryd.prog 7 #[v,u] w fun e w'=>e=.returned (.int .i64 (cmpD D E))∧Below w.heap.size w w':=by
 obtain ⟨x,n,a0,c0,rfl,h0,hD,hxA,hn⟩:=hv
 obtain ⟨y,m,a1,c1,rfl,h1,hE,hyB,hm⟩:=hu
 have lx:=zl_len_bits x A hxA
 have ly:=zl_len_bits y B hyB
 have hfin:=hid (show cmpI (x*pw (max n m-n)) (y*pw (max n m-m))=cmpD D E by
  rw [←hD,←hE,←sc_pw x n (max n m) (by omega),←sc_pw y m (max n m) (by omega)]
  exact cmp_nrm _ _ _ _ _ (.inl (by omega)) (.inl (by omega)))
 clear hD hE hxA hyB
 go_enter Tryd.func7,Tryd.ntmps7
 go_wp2_with ((go_at_call 26;refine (level_any a0 a1 c0 c1 x y n m _ (h0.below (by (repeat' first|(with_reducible first|assumption|apply bR|apply bA|apply bN|apply bD|apply bL|apply bS)|refine bT ?_ (by assumption)|go_size))) (h1.below (by (repeat' first|(with_reducible first|assumption|apply bR|apply bA|apply bN|apply bD|apply bL|apply bS)|refine bT ?_ (by assumption)|go_size))) (by omega) (by omega) (by omega) (by omega)).mono ?_;rintro e w1 ⟨ao,cap,bo,cbp,rfl,hX,hY,hb⟩;have yb:Below w.heap.size w w1:=(by (repeat' first|(with_reducible first|assumption|apply bR|apply bA|apply bN|apply bD|apply bL|apply bS)|refine bT ?_ (by assumption)|go_size))))
 refine (zcmp_any _ _ _ _ _ _ _ (hX.below (by (repeat' first|(with_reducible first|assumption|apply bR|apply bA|apply bN|apply bD|apply bL|apply bS)|refine bT ?_ (by assumption)|go_size))) (hY.below (by (repeat' first|(with_reducible first|assumption|apply bR|apply bA|apply bN|apply bD|apply bL|apply bS)|refine bT ?_ (by assumption)|go_size)))).mono ?_
 rintro e w2 ⟨rfl,hb2⟩
 go_wp2_with fail
 go_ret
 exact ⟨ret_int hfin.out,by (repeat' first|(with_reducible first|assumption|apply bR|apply bA|apply bN|apply bD|apply bL|apply bS)|refine bT ?_ (by assumption)|go_size)⟩
end Go.Proofs.YtehhegbkahnhgaaDoor
namespace Go.Ulp
open Go.RowKit
end Go.Ulp
namespace Go.Proofs.YtehhegbkahnhgaaDoor
open Go.RowKit Go.Ulp
set_option maxHeartbeats 1000000
set_option maxRecDepth 100000
theorem qmake_any (a0:Option Addr) (c0:Nat) (x:Int) (n:Int) (A E:Nat) (w:World) (h0:Nz 3 w a0 c0 (zl x)) (hx:x.natAbs<2^A) (hA:A≤1000000000) (hn: -(E:Int)≤n∧n≤E) (hE:E≤1000000):
 Calls Tryd.prog 10 #[.agg #[.bool (zneg x),.slice a0 (zl x).length c0],.int .i64 n] w fun e w'=>RetQD 3 w (nrm x n) (A+E) E e w':=by
 have lx:=zl_len_bits x A hx
 by_cases h:n<0
 ·have e1: -n=(((-n).toNat:Nat):Int):=by omega
  refine (qmake_neg a0 c0 x n w h0 h (by omega)).mono ?_
  intro e w' hr
  rw [e1] at hr
  exact hr.qd (by congr 1;omega) (abs_weak hx (by omega)) (by omega)
 ·obtain ⟨k,rfl⟩:=Int.eq_ofNat_of_zero_le (show 0≤n by omega)
  refine (qmake_pos a0 c0 x k w h0 (by omega) (by omega)).mono ?_
  intro e w' hr
  exact RetQ.qd (n:=0) hr (by rw [nrm_scale];congr 1;omega) (abs_weak (abs_mul_pw_lt hx) (by omega)) (by omega)
end Go.Proofs.YtehhegbkahnhgaaDoor
namespace Go.Ulp
open Go.RowKit
theorem QL.far {t:TypeId} {w:World} {g:Nat} {n:Bool} {v:Value} {k:Int} (h:QL t w g n v k) (a:Addr) (u:Value) (hne:g≠a.block):QL t (w.setCell a u) g n v k:=by
 refine ⟨h.1.far a u hne,?_,?_⟩
 ·rw [World.cell?_setCell_other (h:=fun e=>hne (by rw [e]))];exact h.2.1
 ·rw [frozen_setCell];exact h.2.2
theorem QL.set2far {t:TypeId} {w:World} {g:Nat} {n:Bool} {v:Value} {k:Int} (h:QL t w g n v k) {b:Nat} {u u':Value} (hne:g≠b):QL t ((w.setCell ⟨b,0,none⟩ u).setCell ⟨b,1,none⟩ u') g n v k:=
 (h.far _ _ hne).far _ _ hne
end Go.Ulp
namespace Go.Proofs.YtehhegbkahnhgaaDoor
open Go.RowKit Go.Ulp
set_option maxHeartbeats 1000000
set_option maxRecDepth 100000
theorem qof_gen (B A:Nat) (hB:160000≤B) (hB2:B≤1000000) (hA:B+200000≤A) (neg:Bool) (m:Nat) (am:Option Addr) (cm:Nat) (n:Int) (w:World) (h0:Ns .u32 w am cm (limbs m)) (hl:(limbs m).length≤5000) (hn: -200000≤n∧n≤200000):
 Calls Tryd.prog 9 #[.agg #[.bool neg,.slice am (limbs m).length cm,.int .i64 n]] w fun e w'=>RetQD 3 w (nrm (sg neg m) n) A 200000 e w':=by
 have hm:m<2^B:=by
  have h1:m<4294967296^(limbs m).length:=(digs_len_le _ (by omega) _ _).1 (Nat.le_refl _)
  rw [b_pow] at h1
  exact Nat.lt_of_lt_of_le h1 (Nat.pow_le_pow_right (by omega) (by omega))
 have hma:=hid (show (m:Int).natAbs<2^B by rw [Int.natAbs_natCast];exact hm)
 have hma2:=hid (show (-(m:Int)).natAbs<2^B by rw [Int.natAbs_neg,Int.natAbs_natCast];exact hm)
 have hlv:=hid (lval_limbs m)
 clear hm
 cases neg
 ·go_enter Tryd.func9,Tryd.ntmps9
  go_wp2_with fail
  have zR0:QL 34 ((w.alloc (.cells #[.bool false,.slice am (limbs m).length cm,.int .i64 n] 24)).alloc (.cells #[.bool false,.slice none 0 0,.int .i64 0] 34)) (w.heap.size+1) false (.slice none 0 0) 0:=QL.made (by first|omega|(simp;done)|(simp;omega))
  have zA0:QL 24 ((w.alloc (.cells #[.bool false,.slice am (limbs m).length cm,.int .i64 n] 24)).alloc (.cells #[.bool false,.slice none 0 0,.int .i64 0] 34)) w.heap.size false (.slice am (limbs m).length cm) n:=(QL.made rfl).alloc _
  refine (zlimbs_any (limbs m) am cm _ (limbs_lim m) (h0.below (by (repeat' first|(with_reducible first|assumption|apply bR|apply bA|apply bN|apply bD|apply bL|apply bS)|refine bT ?_ (by assumption)|go_size))) (by omega)).mono ?_
  rw [hlv.out]
  rintro e w1 ⟨a1,c1,rfl,hN1,hb1⟩
  have zR1:=zR0.below hb1
  have yb1:Below w.heap.size w w1:=below_trans (by (repeat' first|(with_reducible first|assumption|apply bR|apply bA|apply bN|apply bD|apply bL|apply bS)|refine bT ?_ (by assumption)|go_size)) hb1
  have zA1:=zA0.below hb1
  clear zR0 zA0 hb1
  obtain ⟨⟨j0,j1,-,-,-⟩,j2,-⟩:=id zA1
  have hlt5:=zR1.lt
  have hlt6:=zA1.lt
  go_wp2_with fail
  refine Calls.mono (qmake_any _ _ _ _ B 200000 _ (hN1.below (by (repeat' first|(with_reducible first|assumption|apply bR|apply bA|apply bN|apply bD|apply bL|apply bS)|refine bT ?_ (by assumption)|go_size))) hma.out (by omega) ⟨by omega,by omega⟩ (by omega)) ?_
  rintro e w7 ⟨v7,rfl,⟨y,s,b0,d0,rfl,hY,hE,hyA,hs⟩,hb7⟩
  have zR:=(zR1.alloc _).below hb7
  have yb:Below w.heap.size w w7:=below_trans (by (repeat' first|(with_reducible first|assumption|apply bR|apply bA|apply bN|apply bD|apply bL|apply bS)|refine bT ?_ (by assumption)|go_size)) hb7
  have HE:=hid hE
  have HYA:=hid hyA
  clear hb7 hE hyA
  obtain ⟨⟨k0,k1,f0,f1,hs2⟩,k2,f2⟩:=zR
  go_wp2_with fail
  refine bodyPost_ret (by simp [results,Tryd.results9,go_sem,k0,k1,k2];try rfl) rfl ?_
  exact ⟨_,rfl,⟨_,_,_,_,rfl,((hY.setCell hs2 (by decide) _ _).setCell (hs2.setCell _ _) (by decide) _ _).setCell ((hs2.setCell _ _).setCell _ _) (by decide) _ _,HE.out,abs_weak HYA.out (by omega),by omega⟩,((yb.setCell (by first|omega|(simp;done)|(simp;omega)) _).setCell (by first|omega|(simp;done)|(simp;omega)) _).setCell (by first|omega|(simp;done)|(simp;omega)) _⟩
 ·go_enter Tryd.func9,Tryd.ntmps9
  go_wp2_with fail
  have zR0:QL 34 ((w.alloc (.cells #[.bool true,.slice am (limbs m).length cm,.int .i64 n] 24)).alloc (.cells #[.bool false,.slice none 0 0,.int .i64 0] 34)) (w.heap.size+1) false (.slice none 0 0) 0:=QL.made (by first|omega|(simp;done)|(simp;omega))
  have zA0:QL 24 ((w.alloc (.cells #[.bool true,.slice am (limbs m).length cm,.int .i64 n] 24)).alloc (.cells #[.bool false,.slice none 0 0,.int .i64 0] 34)) w.heap.size true (.slice am (limbs m).length cm) n:=(QL.made rfl).alloc _
  refine (zlimbs_any (limbs m) am cm _ (limbs_lim m) (h0.below (by (repeat' first|(with_reducible first|assumption|apply bR|apply bA|apply bN|apply bD|apply bL|apply bS)|refine bT ?_ (by assumption)|go_size))) (by omega)).mono ?_
  rw [hlv.out]
  rintro e w1 ⟨a1,c1,rfl,hN1,hb1⟩
  have zR1:=zR0.below hb1
  have yb1:Below w.heap.size w w1:=below_trans (by (repeat' first|(with_reducible first|assumption|apply bR|apply bA|apply bN|apply bD|apply bL|apply bS)|refine bT ?_ (by assumption)|go_size)) hb1
  have zA1:=zA0.below hb1
  clear zR0 zA0 hb1
  obtain ⟨⟨j0,j1,-,-,-⟩,j2,-⟩:=id zA1
  have hlt5:=zR1.lt
  have hlt6:=zA1.lt
  go_wp2_with fail
  have zA2:=zA1.alloc (.cells #[.bool (zneg (m:Int)),.slice a1 (zl (m:Int)).length c1] 32)
  have zR2:=zR1.alloc (.cells #[.bool (zneg (m:Int)),.slice a1 (zl (m:Int)).length c1] 32)
  refine (zneg_any _ _ _ _ (hN1.below (by (repeat' first|(with_reducible first|assumption|apply bR|apply bA|apply bN|apply bD|apply bL|apply bS)|refine bT ?_ (by assumption)|go_size)))).mono ?_
  rintro e w6 ⟨a6,c6,rfl,hN6,hb6⟩
  have zR6:=zR2.below hb6
  have zA6:=zA2.below hb6
  have yb6:Below w.heap.size w w6:=below_trans (by (repeat' first|(with_reducible first|assumption|apply bR|apply bA|apply bN|apply bD|apply bL|apply bS)|refine bT ?_ (by assumption)|go_size)) hb6
  have hz:=(ZL.made (w:=w1) (t:=32) (n:=zneg (m:Int)) (v:=.slice a1 (zl (m:Int)).length c1) rfl).below hb6
  have k0:=hz.1
  have k1:=hz.2.1
  have f0:=hz.2.2.1
  have f1:=hz.2.2.2.1
  have i0:=zA6.1.1
  have i1:=zA6.1.2.1
  have i2:=zA6.2.1
  go_wp2_with fail
  refine Calls.mono (qmake_any _ _ _ _ B 200000 _ (hN6.set2 hz.2.2.2.2 (by decide) _ _) hma2.out (by omega) ⟨by omega,by omega⟩ (by omega)) ?_
  rintro e w7 ⟨v7,rfl,⟨y,s,b0,d0,rfl,hY,hE,hyA,hs⟩,hb7⟩
  have zR:=(QL.set2far zR6 (by first|omega|(simp;done)|(simp;omega))).below hb7
  have yb:Below w.heap.size w w7:=below_trans ((yb6.setCell (by first|omega|(simp;done)|(simp;omega)) _).setCell (by first|omega|(simp;done)|(simp;omega)) _) hb7
  have HE:=hid hE
  have HYA:=hid hyA
  clear hb7 hE hyA k0 k1 f0 f1
  obtain ⟨⟨k0,k1,f0,f1,hs2⟩,k2,f2⟩:=zR
  go_wp2_with fail
  refine bodyPost_ret (by simp [results,Tryd.results9,go_sem,k0,k1,k2];try rfl) rfl ?_
  exact ⟨_,rfl,⟨_,_,_,_,rfl,((hY.setCell hs2 (by decide) _ _).setCell (hs2.setCell _ _) (by decide) _ _).setCell ((hs2.setCell _ _).setCell _ _) (by decide) _ _,HE.out,abs_weak HYA.out (by omega),by omega⟩,((yb.setCell (by first|omega|(simp;done)|(simp;omega)) _).setCell (by first|omega|(simp;done)|(simp;omega)) _).setCell (by first|omega|(simp;done)|(simp;omega)) _⟩
theorem qof_any (neg:Bool) (m:Nat) (am:Option Addr) (cm:Nat) (n:Int) (w:World) (h0:Ns .u32 w am cm (limbs m)) (hl:(limbs m).length≤5000) (hn: -200000≤n∧n≤200000):
 Calls Tryd.prog 9 #[.agg #[.bool neg,.slice am (limbs m).length cm,.int .i64 n]] w fun e w'=>RetQD 3 w (nrm (sg neg m) n) 400000 200000 e w':=
 qof_gen 160000 400000 (by omega) (by omega) (by omega) neg m am cm n w h0 hl hn
end Go.Proofs.YtehhegbkahnhgaaDoor
namespace Go.Ulp
open Go.RowKit
def VD (w:World) (D:Dy) (v:Value):Prop:= ∃am cm,v=.agg #[.bool (decide (D.1<0)),.slice am (limbs D.1.natAbs).length cm,.int .i64 D.2]∧Ns .u32 w am cm (limbs D.1.natAbs)
def RetVD (w:World) (D:Dy) (e:Ending) (w':World):Prop:= ∃v,e=.returned v∧VD w' D v∧Below w.heap.size w w'
theorem VD.below {w w':World} {D:Dy} {v:Value} (h:VD w D v) (hb:Below w.heap.size w w'):VD w' D v:=by
 obtain ⟨am,cm,h1,h2⟩:=h
 exact ⟨am,cm,h1,h2.below hb⟩
def Tab (g:Nat) (w:World):Prop:=Go.Proofs.TabAt g Go.Lib.deBruijn32tab w
theorem Tab.below {g:Nat} {w w':World} (h:Tab g w) (hb:Below w.heap.size w w'):Tab g w':=fun j hj=>
 (hb.cell (World.block_lt_of_cell? _ _ (h j hj))).trans (h j hj)
theorem ctz_tw (x:Nat) (h0:x≠0) (h1:x<2^32):Lib.ctz 32 x=tw x∧tw x<32:=by
 obtain ⟨m,hm,hk⟩:=Lib.ctzFrom_spec 32 x (by omega) h1
 have e:Lib.ctz 32 x=Lib.ctzFrom 32 x:=by simp [Lib.ctz,h0]
 have h2:=(tw_od_mul (2*m+1) (Lib.ctzFrom 32 x) (by omega)).1
 rw [Nat.mul_comm,←hm] at h2
 rw [e,h2]
 exact ⟨rfl,hk⟩
theorem tw_low (x r:Nat) (h0:x≠0) (h1:x<2^32):tw (x+2^32*r)=tw x:=by
 have hk:=(ctz_tw x h0 h1).2
 obtain ⟨e1,e2⟩:=od_tw x (by omega)
 obtain ⟨d,hd⟩: ∃d,32=tw x+(d+1):=⟨31-tw x,by omega⟩
 have e3:x+2^32*r=(od x+2*(2^d*r))*2^tw x:=by
  have h4:2^32*r=2*(2^d*r)*2^tw x:=by
   rw [hd,Nat.pow_add,Nat.pow_succ]
   simp only [Nat.mul_assoc,Nat.mul_comm,Nat.mul_left_comm]
  rw [Nat.add_mul,e1,h4]
 rw [e3]
 exact (tw_od_mul _ _ (by omega)).1
theorem val_zeros_take (B:Nat) (L:List Nat) (i:Nat) (h: ∀j,j<i→L.getD j 0=0):val B (L.take i)=0:=by
 refine val_zeros B _ (fun d hd=>?_)
 obtain ⟨j,hj,rfl⟩:=List.mem_iff_getElem.1 hd
 rw [List.length_take] at hj
 have h1:=h j (by omega)
 rw [getD_in _ _ (by omega)] at h1
 rw [List.getElem_take];exact h1
theorem tw_limbs (M i x:Nat) (hi:i<(limbs M).length) (hz: ∀j,j<i→(limbs M).getD j 0=0) (hx:(limbs M).getD i 0=x) (hx0:x≠0):tw M=32*i+tw x:=by
 have lL:=limbs_lim M
 have hx1:x<2^32:=by rw [←hx];exact lL.getD (by omega) i
 have h1:=val_take_drop 4294967296 (limbs M) i (by omega)
 have h2:=val_drop 4294967296 (limbs M) i hi
 have h3:=lval_limbs M
 unfold lval at h3
 rw [h3,val_zeros_take _ _ _ hz,h2,hx,Nat.zero_add] at h1
 have e:M=(x+2^32*val 4294967296 ((limbs M).drop (i+1)))*2^(32*i):=by
  conv=>lhs;rw [h1]
  rw [Nat.mul_comm,Nat.pow_mul]
 rw [e,(tw_mul _ _ (by omega)).1,tw_low x _ hx0 hx1];omega
theorem nrm_sg (neg:Bool) (M:Nat) (e:Int) (h:0<M):nrm (sg neg M) e=(sg neg (od M),e+tw M):=by
 have hx:sg neg (M:Int)≠0:=by unfold sg;cases neg<;>simp<;>omega
 have ha:(sg neg (M:Int)).natAbs=M:=by rw [sg_abs,Int.natAbs_natCast]
 have h1:=nrm_abs (sg neg (M:Int)) e hx
 rw [ha] at h1
 obtain ⟨k,h2,h3⟩:=nrm_rep (sg neg (M:Int)) e
 refine Prod.ext ?_ ?_
 ·have hp:=pw_pos k
  have key: ∀y:Int,y.natAbs=od M→sg neg (M:Int)=y*pw k→y=sg neg (od M:Int):=by
   intro y hy1 hy2
   have hod:=od_pos M h
   rcases Int.lt_trichotomy y 0 with hs|hs|hs
   ·have h5:y*pw k<0:=Int.mul_neg_of_neg_of_pos hs hp
    rw [←hy2] at h5
    cases neg
    ·exact absurd h5 (show ¬(M:Int)<0 by omega)
    ·show y= -(od M:Int);omega
   ·subst hs;simp at hy1;omega
   ·have h5:0<y*pw k:=Int.mul_pos hs hp
    rw [←hy2] at h5
    cases neg
    ·show y=(od M:Int);omega
    ·exact absurd h5 (show ¬0< -(M:Int) by omega)
  exact key _ h1 h2
 ·show (nrm (sg neg (M:Int)) e).2=_
  unfold nrm;rw [if_neg hx,ha]
theorem nrm_sg_zero (neg:Bool) (e:Int):nrm (sg neg ((0:Nat):Int)) e=(0,0):=by
 have:sg neg ((0:Nat):Int)=0:=by unfold sg;cases neg<;>rfl
 rw [this];rfl
theorem sg_od_lt (neg:Bool) (M:Nat) (h:0<M):decide (sg neg (od M:Int)<0)=neg∧(sg neg (od M:Int)).natAbs=od M:=by
 have:=od_pos M h
 refine ⟨?_,by rw [sg_abs,Int.natAbs_natCast]⟩
 cases neg
 ·exact decide_eq_false (by show ¬(od M:Int)<0;omega)
 ·exact decide_eq_true (by show -(od M:Int)<0;omega)
end Go.Ulp
namespace Go.Proofs.YtehhegbkahnhgaaDoor
open Go.RowKit Go.Ulp
set_option maxHeartbeats 1000000
set_option maxRecDepth 100000
theorem tz32_any (x:Nat) (hx:x<4294967296) (hx0:x≠0) (w:World) (hT:Tab 0 w):
 Calls Tryd.prog 48 #[.int .u32 (x:Int)] w fun e w'=>e=.returned (.int .i64 (tw x:Int))∧w=w':=by
 obtain ⟨hlow,hk⟩:=Lib.lowest_bit 32 x hx0 hx
 obtain ⟨hi,htab⟩:=Lib.deBruijn32_at _ hk
 have hcell:=hT _ hi
 rw [htab] at hcell
 have key:=tz32_key x _ hx hx0 hlow
 have hxb:((x:Int)==0)=false:=beq_eq_false_iff_ne.2 (by omega)
 have HE:=hid (ctz_tw x hx0 hx).1
 obtain ⟨c,hc⟩: ∃c,c=Lib.ctz 32 x:=⟨_,rfl⟩
 rw [←hc] at hcell key hi HE hk
 obtain ⟨idx,hidx⟩: ∃i,i=2^c*125613361%4294967296/134217728:=⟨_,rfl⟩
 rw [←hidx] at hi hcell key
 have HI:=hid hidx
 clear hlow htab hc hidx hT
 go_enter Tryd.func48,Tryd.ntmps48
 go_wp2_with (simp only [key])
 go_ret
 exact ⟨ret_int (by rw [HE.out]),rfl⟩
theorem norm_zero (neg:Bool) (a0:Option Addr) (c0:Nat) (e:Int) (w:World):
 Calls Tryd.prog 20 #[.bool neg,.slice a0 (limbs 0).length c0,.int .i64 e] w (RetVD w (nrm (sg neg ((0:Nat):Int)) e)):=by
 rw [nrm_sg_zero,limbs_zero]
 go_enter Tryd.func20,Tryd.ntmps20
 go_wp2_with fail
 refine bodyPost_ret (by simp [results,Tryd.results20,go_sem];try rfl) rfl ?_
 exact ⟨_,rfl,⟨none,0,rfl,Ns.nil⟩,below_alloc _ _⟩
theorem normD_any (neg:Bool) (a0:Option Addr) (c0 M:Nat) (e:Int) (w:World) (hN:Ns .u32 w a0 c0 (limbs M)) (hm:(limbs M).length≤4294967296) (he: -1099511627776≤e∧e≤1099511627776) (hT:Tab 0 w):
 Calls Tryd.prog 20 #[.bool neg,.slice a0 (limbs M).length c0,.int .i64 e] w (RetVD w (nrm (sg neg (M:Int)) e)):=by
 by_cases h0:M=0
 ·subst h0;exact norm_zero neg a0 c0 e w
 have hpos:0<M:=by omega
 have hl0:0<(limbs M).length:=(digs_len_pos 4294967296 (by omega) M).2 hpos
 have hlb:(((limbs M).length:Int)==0)=false:=beq_eq_false_iff_ne.2 (by omega)
 have hlast:(limbs M).getD ((limbs M).length-1) 0≠0:=by
  rcases (trim_iff (limbs M)).1 (limbs_trim M) with h|h
  ·omega
  ·exact h
 have LL:=hid (limbs_lim M)
 have TW:=hid (tw_limbs M)
 obtain ⟨b0,o0,rfl,hc0⟩:=hN.2.2 hl0
 have HN:=hid hN
 have HT:=hid hT
 have yb0:=below_alloc w (.cells #[.bool false,.slice none 0 0,.int .i64 0] 24)
 have zR0:QL 24 (w.alloc (.cells #[.bool false,.slice none 0 0,.int .i64 0] 24)) w.heap.size false (.slice none 0 0) 0:=QL.made rfl
 have hcap:=hN.1
 have hcap2:=hN.2.1
 unfold maxLen at hcap2
 have RR:=hid (fun w h (hk:tw M≤4294967296000)=>right_any (some ⟨b0,o0,none⟩) c0 M (tw M) w h (by omega) hk)
 have TZ:=hid (fun x h1 h2 w h=>tz32_any x h1 h2 w h)
 have ND:=hid (nrm_sg neg M e hpos)
 have SG:=hid (sg_od_lt neg M hpos)
 obtain ⟨n,hn⟩: ∃n,n=(limbs M).length:=⟨_,rfl⟩
 have HNL:=hid hn
 have hc:=hid (fun i (h:i<n)=>((yb0.cell (p:=⟨b0,o0+i,none⟩) (World.block_lt_of_cell? _ _ (hc0 i (by omega)))).trans (hc0 i (by omega))))
 have HLA:=hid hlast
 rw [←hn] at hlb hcap hm hl0 RR ⊢
 clear hN hT hn h0 hpos hlast hc0
 go_enter Tryd.func20,Tryd.ntmps20
 go_upto_block 0 with fail
 go_cut [7] (fun s7 wx=> ∃i:Nat,s7=.int .i64 (32*(i:Int))∧i<n∧(limbs M).getD i 0≠0∧(∀j,j<i→(limbs M).getD j 0=0)∧wx=w.alloc (.cells #[.bool false,.slice none 0 0,.int .i64 0] 24))
 case first=>
  go_wp2_with fail
  go_loop [7] (fun s7=> ∃i:Nat,s7=.int .i64 (32*(i:Int))∧i<n∧(∀j,j<i→(limbs M).getD j 0=0)) (fun s7=>(32*n-(intOf s7).toNat))
  case atStart=>exact ⟨0,rfl,hl0,fun j hj=>by omega⟩
  case round=>
   obtain ⟨i,rfl,hi,hz⟩:=hrel
   have hcell:=hc.out i hi
   unfold lb at hcell
   obtain ⟨x,hx⟩: ∃x,x=(limbs M).getD i 0:=⟨_,rfl⟩
   rw [←hx] at hcell
   have e1:32*(i:Int)/32=(i:Int):=by omega
   have HX:=hid hx
   have HZ:=hid hz
   clear hx hz
   by_cases hx0:x=0
   ·subst hx0
    have hin:i+1<n:=by
     rcases Nat.lt_or_ge (i+1) n with h|h
     ·exact h
     ·have:i=n-1:=by omega
      have h9:=HX.out
      rw [this,HNL.out] at h9
      exact absurd h9.symm HLA.out
    go_wp2_with fail
    go_round
    case rel=>exact ⟨i+1,by rw [show 32*(i:Int)+32=32*((i+1:Nat):Int) by omega],hin,fun j hj=>by
     by_cases hji:j=i
     ·rw [hji,←HX.out]
     ·exact HZ.out j (by omega)⟩
    case measure=>simp [intOf];omega
   ·have hxb:((x:Int)==0)=false:=beq_eq_false_iff_ne.2 (by omega)
    have HX0:=hid hx0
    clear hx0
    go_wp2_with fail
    go_meet
    exact ⟨i,rfl,hi,by rw [←HX.out];exact HX0.out,HZ.out,rfl⟩
 case rest=>
  obtain ⟨i,rfl,hi,hx0,hz,rfl⟩:=hcut
  have hcell:=hc.out i hi
  unfold lb at hcell
  obtain ⟨x,hx⟩: ∃x,x=(limbs M).getD i 0:=⟨_,rfl⟩
  rw [←hx] at hcell hx0
  have hx1:x<4294967296:=by rw [hx];exact LL.out.getD (by omega) i
  have e1:32*(i:Int)/32=(i:Int):=by omega
  have htw:tw M=32*i+tw x:=TW.out i x (by rw [←HNL.out];exact hi) hz hx.symm hx0
  have ht32:=(ctz_tw x hx0 hx1).2
  have TZx:=hid (fun w h=>TZ.out x hx1 hx0 w h)
  obtain ⟨tM,htM⟩: ∃t,t=tw M:=⟨_,rfl⟩
  obtain ⟨tx,htx⟩: ∃t,t=tw x:=⟨_,rfl⟩
  rw [←htM] at RR ND htw
  rw [←htx] at TZx htw ht32
  have e2:32*(i:Int)+(tx:Int)=(tM:Int):=by omega
  have hMo:M/2^tM=od M:=by rw [htM];rfl
  have RRM:=hid (fun w h=>RR.out w h (by omega))
  rw [hMo] at RRM
  have hcapM:=hid hcap
  clear hx0 hz hx TW htM htx hMo RR TZ htw
  go_upto_region 8 with (first
   |(go_at_call 48;(with_reducible refine (TZx.out _ (HT.out.below yb0)).mono ?_);rintro en w1 ⟨rfl,rfl⟩)
   |(go_at_call 49;(with_reducible refine (RRM.out _ (HN.out.below yb0)).mono ?_);rintro en w2 ⟨a2,rfl,hN2,hb2⟩))
  have zR:=zR0.below hb2
  have yb2:=below_trans yb0 hb2
  obtain ⟨⟨k0,k1,f0,f1,hs2⟩,k2,f2⟩:=id zR
  go_wp2_with fail
  refine bodyPost_ret (by simp [results,Tryd.results20,go_sem,k0,k1,k2];try rfl) rfl ?_
  rw [ND.out]
  refine ⟨_,rfl,⟨a2,(limbs (od M)).length,?_,?_⟩,((yb2.setCell (by first|omega|(simp;done)|(simp;omega)) _).setCell (by first|omega|(simp;done)|(simp;omega)) _).setCell (by first|omega|(simp;done)|(simp;omega)) _⟩
  ·simp only [SG.out.1,SG.out.2]
  ·simp only [SG.out.2]
   exact hN2.set3 zR (by intro x h;cases h) _ _ _
end Go.Proofs.YtehhegbkahnhgaaDoor
namespace Go.Ulp
open Go.RowKit
end Go.Ulp
namespace Go.Proofs.YtehhegbkahnhgaaDoor
open Go.RowKit Go.Ulp
set_option maxHeartbeats 1000000
set_option maxRecDepth 100000
end Go.Proofs.YtehhegbkahnhgaaDoor
namespace Go.Ulp
open Go.RowKit
end Go.Ulp
namespace Go.Proofs.YtehhegbkahnhgaaDoor
open Go.RowKit Go.Ulp
set_option maxHeartbeats 1000000
set_option maxRecDepth 100000
end Go.Proofs.YtehhegbkahnhgaaDoor
namespace Go.Ulp
open Go.RowKit
theorem limbs_len_iff (n k:Nat):(limbs n).length≤k↔n<4294967296^k:=digs_len_le 4294967296 (by omega) n k
theorem limbs_len_mul (m n a b:Nat) (h1:(limbs m).length≤a) (h2:(limbs n).length≤b):(limbs (m*n)).length≤a+b:=by
 have e1:=(limbs_len_iff m a).1 h1
 have e2:=(limbs_len_iff n b).1 h2
 refine (limbs_len_iff _ _).2 ?_
 rw [Nat.pow_add]
 exact Nat.mul_lt_mul'' e1 e2
theorem limbs_len_mono {m n:Nat} (h:m≤n):(limbs m).length≤(limbs n).length:=digs_len_mono 4294967296 (by omega) h
theorem limbs_len_shl (m k j:Nat) (h:k<32*(j+1)):(limbs (m*2^k)).length≤(limbs m).length+(j+1):=by
 refine limbs_len_mul m (2^k) _ _ (Nat.le_refl _) ((digs_len_le 4294967296 (by omega) _ _).2 ?_)
 rw [show (4294967296:Nat)=2^32 by decide,←Nat.pow_mul]
 exact Nat.pow_lt_pow_right (by omega) h
end Go.Ulp
