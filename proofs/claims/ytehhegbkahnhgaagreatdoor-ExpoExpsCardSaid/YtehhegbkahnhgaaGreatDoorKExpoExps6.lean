/- ExpoExps: what the proof leans on, part 6 (Q3 Float). -/
import Derived.Test.YtehhegbkahnhgaaGreatDoorRows
import Derived.Test.YtehhegbkahnhgaaGreatDoorKExpoExps2
import Derived.Test.YtehhegbkahnhgaaGreatDoorKExpoExps4
import Derived.Test.YtehhegbkahnhgaaGreatDoorKExpoExps5
set_option linter.unusedVariables false
set_option linter.unusedSimpArgs false
namespace Go.Ulp
open Go.RowKit
def RetL (t:TypeId) (w:World) (x y n:Int) (e:Ending) (w':World):Prop:=
 ∃ao cap bo cbp,e=.returned (.tuple #[.agg #[.bool (zneg x),.slice ao (zl x).length cap],.agg #[.bool (zneg y),.slice bo (zl y).length cbp],.int .i64 n])∧Nz t w' ao cap (zl x)∧Nz t w' bo cbp (zl y)∧Below w.heap.size w w'
theorem Nz.drew {e:TypeId} {w:World} {ao:Option Addr} {cap:Nat} {L:List Nat} (h:Nz e w ao cap L):Nz e w.drew ao cap L:=h.below (Below.drew (Below.refl _ _))
theorem ElemIs.set2 {w:World} {b:Nat} {t:TypeId} (h:ElemIs w b t) (g:Nat) (u v:Value):ElemIs ((w.setCell ⟨g,0,none⟩ u).setCell ⟨g,1,none⟩ v) b t:=(h.setCell _ _).setCell _ _
theorem Nz.set2 {e t:TypeId} {w:World} {ao:Option Addr} {cap:Nat} {L:List Nat} (h:Nz e w ao cap L) {g:Nat} (hs:ElemIs w g t) (hne:t≠e) (u v:Value):Nz e ((w.setCell ⟨g,0,none⟩ u).setCell ⟨g,1,none⟩ v) ao cap L:=
 (h.setCell hs hne 0 u).setCell (hs.setCell _ _) hne 1 v
theorem wp_world {P:Program} {c:Code} {Q:Exit→Act→World→Prop} {a:Act} {w0:World} (F:World→Prop) (hF:F w0) (h: ∀w,F w→Code.wp P c Q a w):Code.wp P c Q a w0:=h w0 hF
end Go.Ulp
namespace Go.Proofs.YtehhegbkahnhgaaGreatDoor
open Go.RowKit Go.Ulp
set_option maxHeartbeats 1000000
set_option maxRecDepth 100000
theorem level_eq (a0 a1:Option Addr) (c0 c1:Nat) (x y:Int) (t:Nat) (w:World) (h0:Nz 3 w a0 c0 (zl x)) (h1:Nz 3 w a1 c1 (zl y)):
 Calls Tryz.prog 79 #[.agg #[.bool (zneg x),.slice a0 (zl x).length c0,.int .i64 (t:Int)],.agg #[.bool (zneg y),.slice a1 (zl y).length c1,.int .i64 (t:Int)]] w fun e w'=>RetL 3 w x y t e w':=by
 have hm:max (t:Int) (t:Int)=t:=by omega
 go_enter Tryz.func79,Tryz.ntmps79
 go_wp2_with fail
 go_region
 all_goals go_wp2_with fail
 all_goals go_region
 all_goals go_wp2_with fail
 all_goals
  refine bodyPost_ret (by simp [results,Tryz.results79,go_sem];try rfl) rfl ?_
  exact ⟨_,_,_,_,rfl,h0.below (by (repeat' first|(with_reducible first|apply bR|assumption|apply bN|apply bD|apply bL|apply bS)|go_size)),h1.below (by (repeat' first|(with_reducible first|apply bR|assumption|apply bN|apply bD|apply bL|apply bS)|go_size)),by (repeat' first|(with_reducible first|apply bR|assumption|apply bN|apply bD|apply bL|apply bS)|go_size)⟩
theorem level_lt (a0 a1:Option Addr) (c0 c1:Nat) (x y:Int) (ta tb d:Nat) (w:World) (h0:Nz 3 w a0 c0 (zl x)) (h1:Nz 3 w a1 c1 (zl y)) (hd:tb=ta+d) (hp:0<d) (hl:(zl x).length≤1073741824) (hs:d≤100000000) (hs2:ta≤1000000000000):
 Calls Tryz.prog 79 #[.agg #[.bool (zneg x),.slice a0 (zl x).length c0,.int .i64 (ta:Int)],.agg #[.bool (zneg y),.slice a1 (zl y).length c1,.int .i64 (tb:Int)]] w fun e w'=>RetL 3 w (x*pw d) y tb e w':=by
 have hm:max (ta:Int) (tb:Int)=tb:=by omega
 have hd2:(tb:Int)-(ta:Int)=(d:Int):=by omega
 have hlt:(ta:Int)<(tb:Int):=by omega
 have hw:IntKind.i64.wrap (d:Int)=(d:Int):=IntWalk.i64_in _ (by omega)
 have hne:(47:TypeId)≠3:=by decide
 clear hd
 go_enter Tryz.func79,Tryz.ntmps79
 go_wp2_with fail
 go_region
 all_goals go_wp2_with fail
 ·refine wp_world (fun W=>QL 49 W w.heap.size (zneg x) (.slice a0 (zl x).length c0) ta∧QL 49 W (w.heap.size+1) (zneg y) (.slice a1 (zl y).length c1) tb∧ZL 47 W (w.heap.size+1+1) false (.slice none 0 0)∧ZL 47 W (w.heap.size+1+1+1) false (.slice none 0 0)∧ZL 47 W (w.heap.size+1+1+1+1) (zneg x) (.slice a0 (zl x).length c0)∧ZL 47 W (w.heap.size+1+1+1+1+1) (zneg y) (.slice a1 (zl y).length c1)∧Below w.heap.size w W) ⟨QL.drew ((((((QL.made rfl).alloc _).alloc _).alloc _).alloc _).alloc _),QL.drew (((((QL.made (by first|omega|(simp;done)|(simp;omega))).alloc _).alloc _).alloc _).alloc _),ZL.drew ((((ZL.made (by first|omega|(simp;done)|(simp;omega))).alloc _).alloc _).alloc _),ZL.drew (((ZL.made (by first|omega|(simp;done)|(simp;omega))).alloc _).alloc _),ZL.drew ((ZL.made (by first|omega|(simp;done)|(simp;omega))).alloc _),ZL.drew (ZL.made (by first|omega|(simp;done)|(simp;omega))),by (repeat' first|(with_reducible first|apply bR|assumption|apply bN|apply bD|apply bL|apply bS)|go_size)⟩ ?_
  rintro W ⟨zA,zB,z1,z2,zX,zY,yb⟩
  have zAd:=zA.drew
  have zBd:=zB.drew
  have z1d:=z1.drew
  have z2d:=z2.drew
  have zXd:=zX.drew
  have zYd:=zY.drew
  have ybd:=yb.drew
  obtain ⟨⟨kA0,kA1,-,-,-⟩,kA2,-⟩:=zA
  obtain ⟨kX0,kX1,fX0,fX1,-⟩:=zX
  obtain ⟨kY0,kY1,-,-,-⟩:=zY
  go_region_with (first|(go_at_call 82;(with_reducible refine (zpow_any d _ (by omega)).mono ?_);rintro e wn ⟨aon,capn,rfl,hNn,hbn⟩;have h0n:=Nz.below (w':=wn) h0 (by (repeat' first|(with_reducible first|assumption|apply bR|apply bA|apply bN|apply bD|apply bL|apply bS)|refine bT ?_ (by assumption)|go_size));have zXn:=ZL.below (w':=wn) zXd (by (repeat' first|(with_reducible first|assumption|apply bR|apply bA|apply bN|apply bD|apply bL|apply bS)|refine bT ?_ (by assumption)|go_size));have kn0:=zXn.1;have kn1:=zXn.2.1)|(go_at_call 77;(with_reducible refine (zmul_any _ _ _ _ _ _ _ (by assumption) (by assumption) hl (Nat.le_trans (zl_len_pw _) (by omega))).mono ?_);rintro e wn ⟨aon,capn,rfl,hNn,hbn⟩;have zXn:=ZL.below (w':=wn) zXd (by (repeat' first|(with_reducible first|assumption|apply bR|apply bA|apply bN|apply bD|apply bL|apply bS)|refine bT ?_ (by assumption)|go_size));have zYn:=ZL.below (w':=wn) zYd (by (repeat' first|(with_reducible first|assumption|apply bR|apply bA|apply bN|apply bD|apply bL|apply bS)|refine bT ?_ (by assumption)|go_size));have zBn:=QL.below (w':=wn) zBd (by (repeat' first|(with_reducible first|assumption|apply bR|apply bA|apply bN|apply bD|apply bL|apply bS)|refine bT ?_ (by assumption)|go_size));have z1n:=ZL.below (w':=wn) z1d (by (repeat' first|(with_reducible first|assumption|apply bR|apply bA|apply bN|apply bD|apply bL|apply bS)|refine bT ?_ (by assumption)|go_size));have z2n:=ZL.below (w':=wn) z2d (by (repeat' first|(with_reducible first|assumption|apply bR|apply bA|apply bN|apply bD|apply bL|apply bS)|refine bT ?_ (by assumption)|go_size));have h1n:=Nz.below (w':=wn) h1 (by (repeat' first|(with_reducible first|assumption|apply bR|apply bA|apply bN|apply bD|apply bL|apply bS)|refine bT ?_ (by assumption)|go_size));have ybn:Below w.heap.size w wn:=(by (repeat' first|(with_reducible first|assumption|apply bR|apply bA|apply bN|apply bD|apply bL|apply bS)|refine bT ?_ (by assumption)|go_size));have k0:=zXn.1;have k1:=zXn.2.1;have f0:=zXn.2.2.1;have f1:=zXn.2.2.2.1))
  all_goals
   have hsX:=zXn.2.2.2.2
   have zY2:=(zYn.far ⟨(w.heap.size+1+1+1+1),0,none⟩ (.bool (zneg (x*pw d))) (by first|omega|(simp;done)|(simp;omega))).far ⟨(w.heap.size+1+1+1+1),1,none⟩ (.slice aon (zl (x*pw d)).length capn) (by first|omega|(simp;done)|(simp;omega))
   have hN2:=(hNn.setCell hsX (by decide) 0 (.bool (zneg (x*pw d)))).setCell (hsX.setCell _ _) (by decide) 1 (.slice aon (zl (x*pw d)).length capn)
   have kB2:=zBn.2.1
   obtain ⟨kY0n,kY1n,-,-,-⟩:=zYn
   obtain ⟨k10,k11,f10,f11,hsR1⟩:=z1n
   obtain ⟨k20,k21,f20,f21,hsR2⟩:=z2n
   go_wp2_with fail
   go_region
   all_goals
    go_wp2_with fail
    refine bodyPost_ret (by simp [results,Tryz.results79,go_sem,k10,k11,k20,k21];try rfl) rfl ?_
    exact ⟨_,_,_,_,rfl,((hN2.set2 (hsR1.set2 _ _ _) hne _ _).set2 ((hsR2.set2 _ _ _).set2 _ _ _) hne _ _).drew,(((h1n.set2 hsX hne _ _).set2 (hsR1.set2 _ _ _) hne _ _).set2 ((hsR2.set2 _ _ _).set2 _ _ _) hne _ _).drew,by (repeat' first|(with_reducible first|assumption|apply bR|apply bA|apply bN|apply bD|apply bL|apply bS)|refine bT ?_ (by assumption)|go_size)⟩
 ·refine wp_world (fun W=>QL 49 W w.heap.size (zneg x) (.slice a0 (zl x).length c0) ta∧QL 49 W (w.heap.size+1) (zneg y) (.slice a1 (zl y).length c1) tb∧ZL 47 W (w.heap.size+1+1) false (.slice none 0 0)∧ZL 47 W (w.heap.size+1+1+1) false (.slice none 0 0)∧ZL 47 W (w.heap.size+1+1+1+1+1) (zneg x) (.slice a0 (zl x).length c0)∧ZL 47 W (w.heap.size+1+1+1+1) (zneg y) (.slice a1 (zl y).length c1)∧Below w.heap.size w W) ⟨QL.drew ((((((QL.made rfl).alloc _).alloc _).alloc _).alloc _).alloc _),QL.drew (((((QL.made (by first|omega|(simp;done)|(simp;omega))).alloc _).alloc _).alloc _).alloc _),ZL.drew ((((ZL.made (by first|omega|(simp;done)|(simp;omega))).alloc _).alloc _).alloc _),ZL.drew (((ZL.made (by first|omega|(simp;done)|(simp;omega))).alloc _).alloc _),ZL.drew (ZL.made (by first|omega|(simp;done)|(simp;omega))),ZL.drew ((ZL.made (by first|omega|(simp;done)|(simp;omega))).alloc _),by (repeat' first|(with_reducible first|apply bR|assumption|apply bN|apply bD|apply bL|apply bS)|go_size)⟩ ?_
  rintro W ⟨zA,zB,z1,z2,zX,zY,yb⟩
  have zAd:=zA.drew
  have zBd:=zB.drew
  have z1d:=z1.drew
  have z2d:=z2.drew
  have zXd:=zX.drew
  have zYd:=zY.drew
  have ybd:=yb.drew
  obtain ⟨⟨kA0,kA1,-,-,-⟩,kA2,-⟩:=zA
  obtain ⟨kX0,kX1,fX0,fX1,-⟩:=zX
  obtain ⟨kY0,kY1,-,-,-⟩:=zY
  go_region_with (first|(go_at_call 82;(with_reducible refine (zpow_any d _ (by omega)).mono ?_);rintro e wn ⟨aon,capn,rfl,hNn,hbn⟩;have h0n:=Nz.below (w':=wn) h0 (by (repeat' first|(with_reducible first|assumption|apply bR|apply bA|apply bN|apply bD|apply bL|apply bS)|refine bT ?_ (by assumption)|go_size));have zXn:=ZL.below (w':=wn) zXd (by (repeat' first|(with_reducible first|assumption|apply bR|apply bA|apply bN|apply bD|apply bL|apply bS)|refine bT ?_ (by assumption)|go_size));have kn0:=zXn.1;have kn1:=zXn.2.1)|(go_at_call 77;(with_reducible refine (zmul_any _ _ _ _ _ _ _ (by assumption) (by assumption) hl (Nat.le_trans (zl_len_pw _) (by omega))).mono ?_);rintro e wn ⟨aon,capn,rfl,hNn,hbn⟩;have zXn:=ZL.below (w':=wn) zXd (by (repeat' first|(with_reducible first|assumption|apply bR|apply bA|apply bN|apply bD|apply bL|apply bS)|refine bT ?_ (by assumption)|go_size));have zYn:=ZL.below (w':=wn) zYd (by (repeat' first|(with_reducible first|assumption|apply bR|apply bA|apply bN|apply bD|apply bL|apply bS)|refine bT ?_ (by assumption)|go_size));have zBn:=QL.below (w':=wn) zBd (by (repeat' first|(with_reducible first|assumption|apply bR|apply bA|apply bN|apply bD|apply bL|apply bS)|refine bT ?_ (by assumption)|go_size));have z1n:=ZL.below (w':=wn) z1d (by (repeat' first|(with_reducible first|assumption|apply bR|apply bA|apply bN|apply bD|apply bL|apply bS)|refine bT ?_ (by assumption)|go_size));have z2n:=ZL.below (w':=wn) z2d (by (repeat' first|(with_reducible first|assumption|apply bR|apply bA|apply bN|apply bD|apply bL|apply bS)|refine bT ?_ (by assumption)|go_size));have h1n:=Nz.below (w':=wn) h1 (by (repeat' first|(with_reducible first|assumption|apply bR|apply bA|apply bN|apply bD|apply bL|apply bS)|refine bT ?_ (by assumption)|go_size));have ybn:Below w.heap.size w wn:=(by (repeat' first|(with_reducible first|assumption|apply bR|apply bA|apply bN|apply bD|apply bL|apply bS)|refine bT ?_ (by assumption)|go_size));have k0:=zXn.1;have k1:=zXn.2.1;have f0:=zXn.2.2.1;have f1:=zXn.2.2.2.1))
  all_goals
   have hsX:=zXn.2.2.2.2
   have zY2:=(zYn.far ⟨(w.heap.size+1+1+1+1+1),0,none⟩ (.bool (zneg (x*pw d))) (by first|omega|(simp;done)|(simp;omega))).far ⟨(w.heap.size+1+1+1+1+1),1,none⟩ (.slice aon (zl (x*pw d)).length capn) (by first|omega|(simp;done)|(simp;omega))
   have hN2:=(hNn.setCell hsX (by decide) 0 (.bool (zneg (x*pw d)))).setCell (hsX.setCell _ _) (by decide) 1 (.slice aon (zl (x*pw d)).length capn)
   have kB2:=zBn.2.1
   obtain ⟨kY0n,kY1n,-,-,-⟩:=zYn
   obtain ⟨k10,k11,f10,f11,hsR1⟩:=z1n
   obtain ⟨k20,k21,f20,f21,hsR2⟩:=z2n
   go_wp2_with fail
   go_region
   all_goals
    go_wp2_with fail
    refine bodyPost_ret (by simp [results,Tryz.results79,go_sem,k10,k11,k20,k21];try rfl) rfl ?_
    exact ⟨_,_,_,_,rfl,((hN2.set2 (hsR1.set2 _ _ _) hne _ _).set2 ((hsR2.set2 _ _ _).set2 _ _ _) hne _ _).drew,(((h1n.set2 hsX hne _ _).set2 (hsR1.set2 _ _ _) hne _ _).set2 ((hsR2.set2 _ _ _).set2 _ _ _) hne _ _).drew,by (repeat' first|(with_reducible first|assumption|apply bR|apply bA|apply bN|apply bD|apply bL|apply bS)|refine bT ?_ (by assumption)|go_size)⟩
theorem level_gt (a0 a1:Option Addr) (c0 c1:Nat) (x y:Int) (ta tb d:Nat) (w:World) (h0:Nz 3 w a0 c0 (zl x)) (h1:Nz 3 w a1 c1 (zl y)) (hd:ta=tb+d) (hp:0<d) (hl:(zl y).length≤1073741824) (hs:d≤100000000) (hs2:ta≤1000000000000):
 Calls Tryz.prog 79 #[.agg #[.bool (zneg x),.slice a0 (zl x).length c0,.int .i64 (ta:Int)],.agg #[.bool (zneg y),.slice a1 (zl y).length c1,.int .i64 (tb:Int)]] w fun e w'=>RetL 3 w x (y*pw d) ta e w':=by
 have hm:max (ta:Int) (tb:Int)=ta:=by omega
 have hd2:(ta:Int)-(tb:Int)=(d:Int):=by omega
 have hlt:(tb:Int)<(ta:Int):=by omega
 have hw:IntKind.i64.wrap (d:Int)=(d:Int):=IntWalk.i64_in _ (by omega)
 have hne:(47:TypeId)≠3:=by decide
 clear hd
 go_enter Tryz.func79,Tryz.ntmps79
 go_wp2_with fail
 go_region
 all_goals go_wp2_with fail
 ·refine wp_world (fun W=>QL 49 W w.heap.size (zneg x) (.slice a0 (zl x).length c0) ta∧QL 49 W (w.heap.size+1) (zneg y) (.slice a1 (zl y).length c1) tb∧ZL 47 W (w.heap.size+1+1) false (.slice none 0 0)∧ZL 47 W (w.heap.size+1+1+1) false (.slice none 0 0)∧ZL 47 W (w.heap.size+1+1+1+1) (zneg x) (.slice a0 (zl x).length c0)∧ZL 47 W (w.heap.size+1+1+1+1+1) (zneg y) (.slice a1 (zl y).length c1)∧Below w.heap.size w W) ⟨QL.drew ((((((QL.made rfl).alloc _).alloc _).alloc _).alloc _).alloc _),QL.drew (((((QL.made (by first|omega|(simp;done)|(simp;omega))).alloc _).alloc _).alloc _).alloc _),ZL.drew ((((ZL.made (by first|omega|(simp;done)|(simp;omega))).alloc _).alloc _).alloc _),ZL.drew (((ZL.made (by first|omega|(simp;done)|(simp;omega))).alloc _).alloc _),ZL.drew ((ZL.made (by first|omega|(simp;done)|(simp;omega))).alloc _),ZL.drew (ZL.made (by first|omega|(simp;done)|(simp;omega))),by (repeat' first|(with_reducible first|apply bR|assumption|apply bN|apply bD|apply bL|apply bS)|go_size)⟩ ?_
  rintro W ⟨zA,zB,z1,z2,zX,zY,yb⟩
  have zAd:=zA.drew
  have zBd:=zB.drew
  have z1d:=z1.drew
  have z2d:=z2.drew
  have zXd:=zX.drew
  have zYd:=zY.drew
  have ybd:=yb.drew
  obtain ⟨⟨kA0,kA1,-,-,-⟩,kA2,-⟩:=zA
  obtain ⟨⟨kB0,kB1,-,-,-⟩,kB2,-⟩:=zB
  obtain ⟨kX0,kX1,-,-,-⟩:=zX
  obtain ⟨kY0,kY1,fY0,fY1,-⟩:=zY
  go_wp2_with fail
  go_region_with (first|(go_at_call 82;(with_reducible refine (zpow_any d _ (by omega)).mono ?_);rintro e wn ⟨aon,capn,rfl,hNn,hbn⟩;have h1n:=Nz.below (w':=wn) h1 (by (repeat' first|(with_reducible first|assumption|apply bR|apply bA|apply bN|apply bD|apply bL|apply bS)|refine bT ?_ (by assumption)|go_size));have zYn:=ZL.below (w':=wn) zYd (by (repeat' first|(with_reducible first|assumption|apply bR|apply bA|apply bN|apply bD|apply bL|apply bS)|refine bT ?_ (by assumption)|go_size));have kn0:=zYn.1;have kn1:=zYn.2.1)|(go_at_call 77;(with_reducible refine (zmul_any _ _ _ _ _ _ _ (by assumption) (by assumption) hl (Nat.le_trans (zl_len_pw _) (by omega))).mono ?_);rintro e wn ⟨aon,capn,rfl,hNn,hbn⟩;have zXn:=ZL.below (w':=wn) zXd (by (repeat' first|(with_reducible first|assumption|apply bR|apply bA|apply bN|apply bD|apply bL|apply bS)|refine bT ?_ (by assumption)|go_size));have zYn:=ZL.below (w':=wn) zYd (by (repeat' first|(with_reducible first|assumption|apply bR|apply bA|apply bN|apply bD|apply bL|apply bS)|refine bT ?_ (by assumption)|go_size));have z1n:=ZL.below (w':=wn) z1d (by (repeat' first|(with_reducible first|assumption|apply bR|apply bA|apply bN|apply bD|apply bL|apply bS)|refine bT ?_ (by assumption)|go_size));have z2n:=ZL.below (w':=wn) z2d (by (repeat' first|(with_reducible first|assumption|apply bR|apply bA|apply bN|apply bD|apply bL|apply bS)|refine bT ?_ (by assumption)|go_size));have h0n:=Nz.below (w':=wn) h0 (by (repeat' first|(with_reducible first|assumption|apply bR|apply bA|apply bN|apply bD|apply bL|apply bS)|refine bT ?_ (by assumption)|go_size));have ybn:Below w.heap.size w wn:=(by (repeat' first|(with_reducible first|assumption|apply bR|apply bA|apply bN|apply bD|apply bL|apply bS)|refine bT ?_ (by assumption)|go_size));have k0:=zYn.1;have k1:=zYn.2.1;have f0:=zYn.2.2.1;have f1:=zYn.2.2.2.1))
  all_goals
   have hsY:=zYn.2.2.2.2
   have hN2:=(hNn.setCell hsY hne 0 (.bool (zneg (y*pw d)))).setCell (hsY.setCell _ _) hne 1 (.slice aon (zl (y*pw d)).length capn)
   obtain ⟨kX0n,kX1n,-,-,-⟩:=zXn
   obtain ⟨k10,k11,f10,f11,hsR1⟩:=z1n
   obtain ⟨k20,k21,f20,f21,hsR2⟩:=z2n
   go_wp2_with fail
   go_region
   all_goals
    go_wp2_with fail
    refine bodyPost_ret (by simp [results,Tryz.results79,go_sem,k10,k11,k20,k21];try rfl) rfl ?_
    exact ⟨_,_,_,_,rfl,(((h0n.set2 hsY hne _ _).set2 (hsR1.set2 _ _ _) hne _ _).set2 ((hsR2.set2 _ _ _).set2 _ _ _) hne _ _).drew,((hN2.set2 (hsR1.set2 _ _ _) hne _ _).set2 ((hsR2.set2 _ _ _).set2 _ _ _) hne _ _).drew,by (repeat' first|(with_reducible first|assumption|apply bR|apply bA|apply bN|apply bD|apply bL|apply bS)|refine bT ?_ (by assumption)|go_size)⟩
 ·refine wp_world (fun W=>QL 49 W w.heap.size (zneg x) (.slice a0 (zl x).length c0) ta∧QL 49 W (w.heap.size+1) (zneg y) (.slice a1 (zl y).length c1) tb∧ZL 47 W (w.heap.size+1+1) false (.slice none 0 0)∧ZL 47 W (w.heap.size+1+1+1) false (.slice none 0 0)∧ZL 47 W (w.heap.size+1+1+1+1+1) (zneg x) (.slice a0 (zl x).length c0)∧ZL 47 W (w.heap.size+1+1+1+1) (zneg y) (.slice a1 (zl y).length c1)∧Below w.heap.size w W) ⟨QL.drew ((((((QL.made rfl).alloc _).alloc _).alloc _).alloc _).alloc _),QL.drew (((((QL.made (by first|omega|(simp;done)|(simp;omega))).alloc _).alloc _).alloc _).alloc _),ZL.drew ((((ZL.made (by first|omega|(simp;done)|(simp;omega))).alloc _).alloc _).alloc _),ZL.drew (((ZL.made (by first|omega|(simp;done)|(simp;omega))).alloc _).alloc _),ZL.drew (ZL.made (by first|omega|(simp;done)|(simp;omega))),ZL.drew ((ZL.made (by first|omega|(simp;done)|(simp;omega))).alloc _),by (repeat' first|(with_reducible first|apply bR|assumption|apply bN|apply bD|apply bL|apply bS)|go_size)⟩ ?_
  rintro W ⟨zA,zB,z1,z2,zX,zY,yb⟩
  have zAd:=zA.drew
  have zBd:=zB.drew
  have z1d:=z1.drew
  have z2d:=z2.drew
  have zXd:=zX.drew
  have zYd:=zY.drew
  have ybd:=yb.drew
  obtain ⟨⟨kA0,kA1,-,-,-⟩,kA2,-⟩:=zA
  obtain ⟨⟨kB0,kB1,-,-,-⟩,kB2,-⟩:=zB
  obtain ⟨kX0,kX1,-,-,-⟩:=zX
  obtain ⟨kY0,kY1,fY0,fY1,-⟩:=zY
  go_wp2_with fail
  go_region_with (first|(go_at_call 82;(with_reducible refine (zpow_any d _ (by omega)).mono ?_);rintro e wn ⟨aon,capn,rfl,hNn,hbn⟩;have h1n:=Nz.below (w':=wn) h1 (by (repeat' first|(with_reducible first|assumption|apply bR|apply bA|apply bN|apply bD|apply bL|apply bS)|refine bT ?_ (by assumption)|go_size));have zYn:=ZL.below (w':=wn) zYd (by (repeat' first|(with_reducible first|assumption|apply bR|apply bA|apply bN|apply bD|apply bL|apply bS)|refine bT ?_ (by assumption)|go_size));have kn0:=zYn.1;have kn1:=zYn.2.1)|(go_at_call 77;(with_reducible refine (zmul_any _ _ _ _ _ _ _ (by assumption) (by assumption) hl (Nat.le_trans (zl_len_pw _) (by omega))).mono ?_);rintro e wn ⟨aon,capn,rfl,hNn,hbn⟩;have zXn:=ZL.below (w':=wn) zXd (by (repeat' first|(with_reducible first|assumption|apply bR|apply bA|apply bN|apply bD|apply bL|apply bS)|refine bT ?_ (by assumption)|go_size));have zYn:=ZL.below (w':=wn) zYd (by (repeat' first|(with_reducible first|assumption|apply bR|apply bA|apply bN|apply bD|apply bL|apply bS)|refine bT ?_ (by assumption)|go_size));have z1n:=ZL.below (w':=wn) z1d (by (repeat' first|(with_reducible first|assumption|apply bR|apply bA|apply bN|apply bD|apply bL|apply bS)|refine bT ?_ (by assumption)|go_size));have z2n:=ZL.below (w':=wn) z2d (by (repeat' first|(with_reducible first|assumption|apply bR|apply bA|apply bN|apply bD|apply bL|apply bS)|refine bT ?_ (by assumption)|go_size));have h0n:=Nz.below (w':=wn) h0 (by (repeat' first|(with_reducible first|assumption|apply bR|apply bA|apply bN|apply bD|apply bL|apply bS)|refine bT ?_ (by assumption)|go_size));have ybn:Below w.heap.size w wn:=(by (repeat' first|(with_reducible first|assumption|apply bR|apply bA|apply bN|apply bD|apply bL|apply bS)|refine bT ?_ (by assumption)|go_size));have k0:=zYn.1;have k1:=zYn.2.1;have f0:=zYn.2.2.1;have f1:=zYn.2.2.2.1))
  all_goals
   have hsY:=zYn.2.2.2.2
   have hN2:=(hNn.setCell hsY hne 0 (.bool (zneg (y*pw d)))).setCell (hsY.setCell _ _) hne 1 (.slice aon (zl (y*pw d)).length capn)
   obtain ⟨kX0n,kX1n,-,-,-⟩:=zXn
   obtain ⟨k10,k11,f10,f11,hsR1⟩:=z1n
   obtain ⟨k20,k21,f20,f21,hsR2⟩:=z2n
   go_wp2_with fail
   go_region
   all_goals
    go_wp2_with fail
    refine bodyPost_ret (by simp [results,Tryz.results79,go_sem,k10,k11,k20,k21];try rfl) rfl ?_
    exact ⟨_,_,_,_,rfl,(((h0n.set2 hsY hne _ _).set2 (hsR1.set2 _ _ _) hne _ _).set2 ((hsR2.set2 _ _ _).set2 _ _ _) hne _ _).drew,((hN2.set2 (hsR1.set2 _ _ _) hne _ _).set2 ((hsR2.set2 _ _ _).set2 _ _ _) hne _ _).drew,by (repeat' first|(with_reducible first|assumption|apply bR|apply bA|apply bN|apply bD|apply bL|apply bS)|refine bT ?_ (by assumption)|go_size)⟩
end Go.Proofs.YtehhegbkahnhgaaGreatDoor
namespace Go.Ulp
open Go.RowKit
def QD (t:TypeId) (w:World) (D:Dy) (A T:Nat) (v:Value):Prop:=
 ∃(x:Int) (n:Nat) (ao:Option Addr) (cap:Nat),v=.agg #[.bool (zneg x),.slice ao (zl x).length cap,.int .i64 (n:Int)]∧Nz t w ao cap (zl x)∧nrm x (-(n:Int))=D∧x.natAbs<2^A∧n≤T
def RetQD (t:TypeId) (w:World) (D:Dy) (A T:Nat) (e:Ending) (w':World):Prop:=
 ∃v,e=.returned v∧QD t w' D A T v∧Below w.heap.size w w'
theorem QD.below {t:TypeId} {w w':World} {D:Dy} {A T:Nat} {v:Value} (h:QD t w D A T v) (hb:Below w.heap.size w w'):QD t w' D A T v:=by
 obtain ⟨x,n,ao,cap,h1,h2,h3⟩:=h
 exact ⟨x,n,ao,cap,h1,h2.below hb,h3⟩
theorem QD.weak {t:TypeId} {w:World} {D:Dy} {A T A' T':Nat} {v:Value} (h:QD t w D A T v) (hA:A≤A') (hT:T≤T'):QD t w D A' T' v:=by
 obtain ⟨x,n,ao,cap,h1,h2,h3,h4,h5⟩:=h
 exact ⟨x,n,ao,cap,h1,h2,h3,Nat.lt_of_lt_of_le h4 (Nat.pow_le_pow_right (by omega) hA),by omega⟩
theorem RetQD.weak {t:TypeId} {w:World} {D:Dy} {A T A' T':Nat} {e:Ending} {w':World} (h:RetQD t w D A T e w') (hA:A≤A') (hT:T≤T'):RetQD t w D A' T' e w':=by
 obtain ⟨v,h1,h2,h3⟩:=h
 exact ⟨v,h1,h2.weak hA hT,h3⟩
theorem RetQ.qd {t:TypeId} {w:World} {x:Int} {n:Nat} {e:Ending} {w':World} {D:Dy} {A T:Nat} (h:RetQ t w x n e w') (hD:nrm x (-(n:Int))=D) (hA:x.natAbs<2^A) (hT:n≤T):RetQD t w D A T e w':=by
 obtain ⟨ao,cap,h1,h2,h3⟩:=h
 exact ⟨_,h1,⟨x,n,ao,cap,rfl,h2,hD,hA,hT⟩,h3⟩
theorem sc_pw (x:Int) (n m:Nat) (h:n≤m):sc x (-(n:Int)) (-(m:Int))=x*pw (m-n):=by unfold sc;congr 2;omega
theorem abs_mul_pw_lt {x:Int} {A k:Nat} (h:x.natAbs<2^A):(x*pw k).natAbs<2^(A+k):=by
 rw [natAbs_mul_pw,Nat.pow_add];exact Nat.mul_lt_mul_of_pos_right h (Nat.two_pow_pos k)
theorem abs_add_lt {x y:Int} {A:Nat} (h:x.natAbs<2^A) (h':y.natAbs<2^A):(x+y).natAbs<2^(A+1):=by
 rw [Nat.pow_succ];omega
theorem abs_weak {x:Int} {A B:Nat} (h:x.natAbs<2^A) (hAB:A≤B):x.natAbs<2^B:=Nat.lt_of_lt_of_le h (Nat.pow_le_pow_right (by omega) hAB)
end Go.Ulp
namespace Go.Proofs.YtehhegbkahnhgaaGreatDoor
open Go.RowKit Go.Ulp
set_option maxHeartbeats 1000000
set_option maxRecDepth 100000
theorem level_any (a0 a1:Option Addr) (c0 c1:Nat) (x y:Int) (ta tb:Nat) (w:World) (h0:Nz 3 w a0 c0 (zl x)) (h1:Nz 3 w a1 c1 (zl y)) (hx:(zl x).length≤1073741824) (hy:(zl y).length≤1073741824) (hs:ta≤100000000) (hs2:tb≤100000000):
 Calls Tryz.prog 79 #[.agg #[.bool (zneg x),.slice a0 (zl x).length c0,.int .i64 (ta:Int)],.agg #[.bool (zneg y),.slice a1 (zl y).length c1,.int .i64 (tb:Int)]] w fun e w'=>RetL 3 w (x*pw (max ta tb-ta)) (y*pw (max ta tb-tb)) ((max ta tb:Nat):Int) e w':=by
 rcases Nat.lt_trichotomy ta tb with h|h|h
 ·have e1:max ta tb=tb:=by omega
  have:=level_lt a0 a1 c0 c1 x y ta tb (tb-ta) w h0 h1 (by omega) (by omega) hx (by omega) (by omega)
  rw [e1,Nat.sub_self,pw_zero,Int.mul_one];exact this
 ·subst h
  have:=level_eq a0 a1 c0 c1 x y ta w h0 h1
  rw [Nat.max_self,Nat.sub_self,pw_zero,Int.mul_one,Int.mul_one];exact this
 ·have e1:max ta tb=ta:=by omega
  have:=level_gt a0 a1 c0 c1 x y ta tb (ta-tb) w h0 h1 (by omega) (by omega) hy (by omega) (by omega)
  rw [e1,Nat.sub_self,pw_zero,Int.mul_one];exact this
theorem qcmp_any (v u:Value) (D E:Dy) (A T B S:Nat) (w:World) (hv:QD 3 w D A T v) (hu:QD 3 w E B S u) (hA:A≤1000000000) (hB:B≤1000000000) (hT:T≤100000000) (hS:S≤100000000):
 Calls Tryz.prog 35 #[v,u] w fun e w'=>e=.returned (.int .i64 (cmpD D E))∧Below w.heap.size w w':=by
 obtain ⟨x,n,a0,c0,rfl,h0,hD,hxA,hn⟩:=hv
 obtain ⟨y,m,a1,c1,rfl,h1,hE,hyB,hm⟩:=hu
 have lx:=zl_len_bits x A hxA
 have ly:=zl_len_bits y B hyB
 have hfin:=hid (show cmpI (x*pw (max n m-n)) (y*pw (max n m-m))=cmpD D E by
  rw [←hD,←hE,←sc_pw x n (max n m) (by omega),←sc_pw y m (max n m) (by omega)]
  exact cmp_nrm _ _ _ _ _ (.inl (by omega)) (.inl (by omega)))
 clear hD hE hxA hyB
 go_enter Tryz.func35,Tryz.ntmps35
 go_wp2_with ((go_at_call 79;refine (level_any a0 a1 c0 c1 x y n m _ (h0.below (by (repeat' first|(with_reducible first|assumption|apply bR|apply bA|apply bN|apply bD|apply bL|apply bS)|refine bT ?_ (by assumption)|go_size))) (h1.below (by (repeat' first|(with_reducible first|assumption|apply bR|apply bA|apply bN|apply bD|apply bL|apply bS)|refine bT ?_ (by assumption)|go_size))) (by omega) (by omega) (by omega) (by omega)).mono ?_;rintro e w1 ⟨ao,cap,bo,cbp,rfl,hX,hY,hb⟩;have yb:Below w.heap.size w w1:=(by (repeat' first|(with_reducible first|assumption|apply bR|apply bA|apply bN|apply bD|apply bL|apply bS)|refine bT ?_ (by assumption)|go_size))))
 refine (zcmp_any _ _ _ _ _ _ _ (hX.below (by (repeat' first|(with_reducible first|assumption|apply bR|apply bA|apply bN|apply bD|apply bL|apply bS)|refine bT ?_ (by assumption)|go_size))) (hY.below (by (repeat' first|(with_reducible first|assumption|apply bR|apply bA|apply bN|apply bD|apply bL|apply bS)|refine bT ?_ (by assumption)|go_size)))).mono ?_
 rintro e w2 ⟨rfl,hb2⟩
 go_wp2_with fail
 go_ret
 exact ⟨ret_int hfin.out,by (repeat' first|(with_reducible first|assumption|apply bR|apply bA|apply bN|apply bD|apply bL|apply bS)|refine bT ?_ (by assumption)|go_size)⟩
theorem qadd_any (v u:Value) (D E:Dy) (A T B S:Nat) (w:World) (hv:QD 3 w D A T v) (hu:QD 3 w E B S u) (hA:A≤100000000) (hB:B≤100000000) (hT:T≤100000000) (hS:S≤100000000):
 Calls Tryz.prog 40 #[v,u] w fun e w'=>RetQD 3 w (addD D E) (max A B+max T S+1) (max T S) e w':=by
 obtain ⟨x,n,a0,c0,rfl,h0,hD,hxA,hn⟩:=hv
 obtain ⟨y,m,a1,c1,rfl,h1,hE,hyB,hm⟩:=hu
 have lx:=zl_len_bits x A hxA
 have ly:=zl_len_bits y B hyB
 have hD':=hid (show nrm (x*pw (max n m-n)+y*pw (max n m-m)) (-((max n m:Nat):Int))=addD D E by
  rw [←hD,←hE,←sc_pw x n (max n m) (by omega),←sc_pw y m (max n m) (by omega)]
  exact nrm_add _ _ _ _ _ (.inl (by omega)) (.inl (by omega)))
 have b1:=abs_weak (abs_mul_pw_lt (k:=max n m-n) hxA) (show A+(max n m-n)≤max A B+max T S by omega)
 have b2:=abs_weak (abs_mul_pw_lt (k:=max n m-m) hyB) (show B+(max n m-m)≤max A B+max T S by omega)
 have l1:=zl_len_bits _ _ b1
 have l2:=zl_len_bits _ _ b2
 have b3:=hid (abs_add_lt b1 b2)
 have hk:=hid (show max n m≤max T S by omega)
 clear hD hE hxA hyB b1 b2
 obtain ⟨X,hX⟩: ∃X,X=x*pw (max n m-n):=⟨_,rfl⟩
 obtain ⟨Y,hY⟩: ∃Y,Y=y*pw (max n m-m):=⟨_,rfl⟩
 obtain ⟨K,hK⟩: ∃K,K=max n m:=⟨_,rfl⟩
 have hlv:=fun w1 (g0:Nz 3 w1 a0 c0 (zl x)) (g1:Nz 3 w1 a1 c1 (zl y))=>level_any a0 a1 c0 c1 x y n m w1 g0 g1 (by omega) (by omega) (by omega) (by omega)
 rw [←hX,←hY,←hK] at hlv
 rw [←hX,←hY,←hK] at hD'
 rw [←hX,←hY] at b3
 rw [←hX] at l1
 rw [←hY] at l2
 rw [←hK] at hk
 have hlv:=hid hlv
 clear hX hY hK
 go_enter Tryz.func40,Tryz.ntmps40
 go_wp2_with fail
 have zR0:QL 49 (((w.alloc (.cells #[.bool (zneg x),.slice a0 (zl x).length c0,.int .i64 (n:Int)] 49)).alloc (.cells #[.bool (zneg y),.slice a1 (zl y).length c1,.int .i64 (m:Int)] 49)).alloc (.cells #[.bool false,.slice none 0 0,.int .i64 0] 49)) (w.heap.size+1+1) false (.slice none 0 0) 0:=QL.made (by first|omega|(simp;done)|(simp;omega))
 refine (hlv.out _ (h0.below (by (repeat' first|(with_reducible first|assumption|apply bR|apply bA|apply bN|apply bD|apply bL|apply bS)|refine bT ?_ (by assumption)|go_size))) (h1.below (by (repeat' first|(with_reducible first|assumption|apply bR|apply bA|apply bN|apply bD|apply bL|apply bS)|refine bT ?_ (by assumption)|go_size)))).mono ?_
 rintro e w1 ⟨ao,cap,bo,cbp,rfl,hX,hY,hb⟩
 have zR1:=zR0.below hb
 have yb1:Below w.heap.size w w1:=below_trans (by (repeat' first|(with_reducible first|assumption|apply bR|apply bA|apply bN|apply bD|apply bL|apply bS)|refine bT ?_ (by assumption)|go_size)) hb
 clear zR0 hb
 go_wp2_with fail
 have zR2:=(zR1.alloc (.cells #[.bool (zneg X),.slice ao (zl X).length cap] 47)).alloc (.cells #[.bool (zneg Y),.slice bo (zl Y).length cbp] 47)
 refine (zadd_any _ _ _ _ _ _ _ (hX.below (by (repeat' first|(with_reducible first|assumption|apply bR|apply bA|apply bN|apply bD|apply bL|apply bS)|refine bT ?_ (by assumption)|go_size))) (hY.below (by (repeat' first|(with_reducible first|assumption|apply bR|apply bA|apply bN|apply bD|apply bL|apply bS)|refine bT ?_ (by assumption)|go_size))) (by omega) (by omega)).mono ?_
 rintro e w2 ⟨ao2,cap2,rfl,hN2,hb2⟩
 have zR:=zR2.below hb2
 have yb:Below w.heap.size w w2:=below_trans (by (repeat' first|(with_reducible first|assumption|apply bR|apply bA|apply bN|apply bD|apply bL|apply bS)|refine bT ?_ (by assumption)|go_size)) hb2
 clear zR1 zR2 hb2 yb1
 obtain ⟨⟨k0,k1,f0,f1,hs2⟩,k2,f2⟩:=zR
 go_wp2_with fail
 refine bodyPost_ret (by simp [results,Tryz.results40,go_sem,k0,k1,k2];try rfl) rfl ?_
 exact ⟨_,rfl,⟨_,_,_,_,rfl,((hN2.setCell hs2 (by decide) _ _).setCell (hs2.setCell _ _) (by decide) _ _).setCell ((hs2.setCell _ _).setCell _ _) (by decide) _ _,hD'.out,b3.out,hk.out⟩,((yb.setCell (by first|omega|(simp;done)|(simp;omega)) _).setCell (by first|omega|(simp;done)|(simp;omega)) _).setCell (by first|omega|(simp;done)|(simp;omega)) _⟩
end Go.Proofs.YtehhegbkahnhgaaGreatDoor
namespace Go.Ulp
def expOf (x:Int):Int:=x/4503599627370496%2048
def fracOf (x:Int):Int:=x%4503599627370496
def negB (x:Int):Bool:=decide (9223372036854775808≤x)
def classOf (x:Int):Int:=if expOf x=2047 then (if 0<fracOf x then 5 else 4) else if 0<expOf x then 3 else if 0<fracOf x then 2 else 1
def rankOf (x:Int):Int:=if 9223372036854775808≤x then -(x%9223372036854775808) else x%9223372036854775808
def ranked (n:Int):Int:=if n<0 then 9223372036854775808+ -n else n
def absOf (x:Int):Int:=x%9223372036854775808
theorem expOf_bd (x:Int):0≤expOf x∧expOf x≤2047:=by unfold expOf;omega
theorem fracOf_bd (x:Int):0≤fracOf x∧fracOf x<4503599627370496:=by unfold fracOf;omega
theorem class_bd (x:Int):1≤classOf x∧classOf x≤5:=by unfold classOf;omega
theorem class_nan (x:Int) (h0:0≤x) (h1:x<18446744073709551616):classOf x=5↔9218868437227405312<absOf x:=by
 unfold classOf absOf;split
 ·rename_i h;split
  ·rename_i h2;unfold expOf at h;unfold fracOf at h2;simp;omega
  ·rename_i h2;unfold expOf at h;unfold fracOf at h2;simp;omega
 ·rename_i h;unfold expOf at h;constructor
  ·intro h2;split at h2<;>(try split at h2)<;>omega
  ·intro h2;omega
theorem class_val (x:Int) (h0:0≤x) (h1:x<18446744073709551616):4≤classOf x↔9218868437227405312≤absOf x:=by
 unfold classOf absOf;split
 ·rename_i h;unfold expOf at h;constructor
  ·intro _;omega
  ·intro _;split<;>omega
 ·rename_i h;unfold expOf at h;constructor
  ·intro h2;split at h2<;>(try split at h2)<;>omega
  ·intro h2;omega
end Go.Ulp
namespace Go.Proofs.YtehhegbkahnhgaaGreatDoor
open Go.RowKit Go.Ulp
set_option maxHeartbeats 400000
theorem parts_any (x:Int) (h0:0≤x) (h1:x<18446744073709551616) (w:World):
 Calls Tryz.prog 62 #[.int .u64 x] w fun e w'=>e=.returned (.tuple #[.bool (negB x),.int .i64 (expOf x),.int .u64 (fracOf x)])∧w=w':=by
 have e1:=and_2047 (x/4503599627370496) (by omega) (by omega)
 have e2:=and_frac x h0 h1
 have E1:=hid e1
 have E2:=hid e2
 clear e1 e2
 go_enter Tryz.func62,Tryz.ntmps62
 go_wp2_with fail
 go_ret3
 refine ⟨?_,rfl⟩
 simp only [Array.getD,E1.out,E2.out]
 have:(x/9223372036854775808==1)=negB x:=by unfold negB;rw [Bool.eq_iff_iff];simp;omega
 simp [this,expOf,fracOf]
 rw [IntWalk.wrap64_in _ (by omega)]
theorem fields_any (x:Int) (h0:0≤x) (h1:x<18446744073709551616) (w:World):
 Calls Tryz.prog 75 #[.int .u64 x] w fun e w'=>e=.returned (.tuple #[.bool (negB x),.int .i64 (expOf x),.int .i64 (fracOf x)])∧w=w':=by
 go_enter Tryz.func75,Tryz.ntmps75
 go_wp2_with fail
 go_ret3
 refine ⟨?_,rfl⟩
 simp [negB,expOf,fracOf]
 try omega
theorem class_any (x:Int) (h0:0≤x) (h1:x<18446744073709551616) (w:World):
 Calls Tryz.prog 18 #[.int .u64 x] w fun e w'=>e=.returned (.int .i64 (classOf x))∧w=w':=by
 have b1:=expOf_bd x
 have b2:=fracOf_bd x
 by_cases c1:expOf x=0<;>by_cases c2:fracOf x=0<;>by_cases c3:expOf x=2047<;>try omega
 all_goals
  have hc:classOf x=classOf x:=rfl
  conv at hc=>rhs;unfold classOf
  simp only [c1,c2,c3] at hc
  have HC:=hid hc
  clear hc
  go_enter Tryz.func18,Tryz.ntmps18
  go_wp2_with (go_at_call 62;refine (parts_any x h0 h1 _).mono ?_;rintro e w' ⟨rfl,rfl⟩)
  go_ret
  refine ⟨ret_int ?_,rfl⟩
  rw [HC.out]
  simp
  try omega
theorem classOf_any (x:Int) (h0:0≤x) (h1:x<18446744073709551616) (w:World):
 Calls Tryz.prog 74 #[.int .u64 x] w fun e w'=>e=.returned (.int .i64 (classOf x))∧w=w':=by
 have b1:=expOf_bd x
 have b2:=fracOf_bd x
 by_cases c1:0<expOf x<;>by_cases c2:0<fracOf x<;>by_cases c3:expOf x=2047<;>try omega
 all_goals
  have hc:classOf x=classOf x:=rfl
  conv at hc=>rhs;unfold classOf
  simp only [c1,c2,c3] at hc
  have HC:=hid hc
  clear hc
  go_enter Tryz.func74,Tryz.ntmps74
  go_wp2_with (go_at_call 75;refine (fields_any x h0 h1 _).mono ?_;rintro e w' ⟨rfl,rfl⟩)
  go_ret
  refine ⟨ret_int ?_,rfl⟩
  rw [HC.out]
  simp
theorem ranked_any (n:Int) (c1: -9218868437227405312≤n) (c2:n≤9218868437227405312) (w:World):
 Calls Tryz.prog 85 #[.int .i64 n] w fun e w'=>e=.returned (.int .u64 (ranked n))∧w=w':=by
 by_cases c:n<0
 all_goals
  go_enter Tryz.func85,Tryz.ntmps85
  go_wp2_with fail
  go_ret
  exact ⟨ret_int (by unfold ranked;first|rw [if_pos (by omega)]|rw [if_neg (by omega)];(try rfl);(try omega)),rfl⟩
theorem between_any (n lo hi:Int) (w:World):
 Calls Tryz.prog 26 #[.int .i64 n,.int .i64 lo,.int .i64 hi] w fun e w'=>e=.returned (.bool (decide (lo≤n∧n≤hi)))∧w=w':=by
 by_cases c1:lo≤n<;>by_cases c2:n≤hi
 all_goals
  go_enter Tryz.func26,Tryz.ntmps26
  go_wp2_with fail
  go_ret
  exact ⟨ret_bool (by simp [c1,c2]),rfl⟩
end Go.Proofs.YtehhegbkahnhgaaGreatDoor
