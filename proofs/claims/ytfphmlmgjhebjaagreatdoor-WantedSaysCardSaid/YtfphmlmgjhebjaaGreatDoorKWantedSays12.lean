/- WantedSays: what the proof leans on, part 12 (Q3 Q5). -/
import Derived.Test.YtfphmlmgjhebjaaGreatDoorKWantedSays2
import Derived.Test.YtfphmlmgjhebjaaGreatDoorKWantedSays4
import Derived.Test.YtfphmlmgjhebjaaGreatDoorKWantedSays5
import Derived.Test.YtfphmlmgjhebjaaGreatDoorKWantedSays8
import Derived.Test.YtfphmlmgjhebjaaGreatDoorKWantedSays9
set_option linter.unusedVariables false
set_option linter.unusedSimpArgs false
namespace Go.Ulp
open Go.RowKit
def RetL (t:TypeId) (w:World) (x y n:Int) (e:Ending) (w':World):Prop:=
 ∃ao cap bo cbp,e=.returned (.tuple #[.agg #[.bool (zneg x),.slice ao (zl x).length cap],.agg #[.bool (zneg y),.slice bo (zl y).length cbp],.int .i64 n])∧Nz t w' ao cap (zl x)∧Nz t w' bo cbp (zl y)∧Below w.heap.size w w'
theorem Nz.drew {e:TypeId} {w:World} {ao:Option Addr} {cap:Nat} {L:List Nat} (h:Nz e w ao cap L):Nz e w.drew ao cap L:=h.below (Below.drew (Below.refl _ _))
theorem ElemIs.set2 {w:World} {b:Nat} {t:TypeId} (h:ElemIs w b t) (g:Nat) (u v:Value):ElemIs ((w.setCell ⟨g,0,none⟩ u).setCell ⟨g,1,none⟩ v) b t:=(h.setCell _ _).setCell _ _
theorem Nz.set2 {e t:TypeId} {w:World} {ao:Option Addr} {cap:Nat} {L:List Nat} (h:Nz e w ao cap L) {g:Nat} (hs:ElemIs w g t) (hne:t≠e) (u v:Value):Nz e ((w.setCell ⟨g,0,none⟩ u).setCell ⟨g,1,none⟩ v) ao cap L:=
 (h.setCell hs hne 0 u).setCell (hs.setCell _ _) hne 1 v
theorem wp_world {P:Program} {c:Code} {Q:Exit→Act→World→Prop} {a:Act} {w0:World} (F:World→Prop) (hF:F w0) (h: ∀w,F w→Code.wp P c Q a w):Code.wp P c Q a w0:=h w0 hF
end Go.Ulp
namespace Go.Proofs.YtfphmlmgjhebjaaGreatDoor
open Go.RowKit Go.Ulp
set_option maxHeartbeats 1000000
set_option maxRecDepth 100000
theorem level_eq (a0 a1:Option Addr) (c0 c1:Nat) (x y:Int) (t:Nat) (w:World) (h0:Nz 3 w a0 c0 (zl x)) (h1:Nz 3 w a1 c1 (zl y)):
 Calls Tryz.prog 116 #[.agg #[.bool (zneg x),.slice a0 (zl x).length c0,.int .i64 (t:Int)],.agg #[.bool (zneg y),.slice a1 (zl y).length c1,.int .i64 (t:Int)]] w fun e w'=>RetL 3 w x y t e w':=by
 have hm:max (t:Int) (t:Int)=t:=by omega
 go_enter Tryz.func116,Tryz.ntmps116
 go_wp2_with fail
 go_region
 all_goals go_wp2_with fail
 all_goals go_region
 all_goals go_wp2_with fail
 all_goals
  refine bodyPost_ret (by simp [results,Tryz.results116,go_sem];try rfl) rfl ?_
  exact ⟨_,_,_,_,rfl,h0.below (by (repeat' first|(with_reducible first|apply bR|assumption|apply bN|apply bD|apply bL|apply bS)|go_size)),h1.below (by (repeat' first|(with_reducible first|apply bR|assumption|apply bN|apply bD|apply bL|apply bS)|go_size)),by (repeat' first|(with_reducible first|apply bR|assumption|apply bN|apply bD|apply bL|apply bS)|go_size)⟩
theorem level_lt (a0 a1:Option Addr) (c0 c1:Nat) (x y:Int) (ta tb d:Nat) (w:World) (h0:Nz 3 w a0 c0 (zl x)) (h1:Nz 3 w a1 c1 (zl y)) (hd:tb=ta+d) (hp:0<d) (hl:(zl x).length≤1073741824) (hs:d≤100000000) (hs2:ta≤1000000000000):
 Calls Tryz.prog 116 #[.agg #[.bool (zneg x),.slice a0 (zl x).length c0,.int .i64 (ta:Int)],.agg #[.bool (zneg y),.slice a1 (zl y).length c1,.int .i64 (tb:Int)]] w fun e w'=>RetL 3 w (x*pw d) y tb e w':=by
 have hm:max (ta:Int) (tb:Int)=tb:=by omega
 have hd2:(tb:Int)-(ta:Int)=(d:Int):=by omega
 have hlt:(ta:Int)<(tb:Int):=by omega
 have hw:IntKind.i64.wrap (d:Int)=(d:Int):=IntWalk.i64_in _ (by omega)
 have hne:(31:TypeId)≠3:=by decide
 clear hd
 go_enter Tryz.func116,Tryz.ntmps116
 go_wp2_with fail
 go_region
 all_goals go_wp2_with fail
 ·refine wp_world (fun W=>QL 33 W w.heap.size (zneg x) (.slice a0 (zl x).length c0) ta∧QL 33 W (w.heap.size+1) (zneg y) (.slice a1 (zl y).length c1) tb∧ZL 31 W (w.heap.size+1+1) false (.slice none 0 0)∧ZL 31 W (w.heap.size+1+1+1) false (.slice none 0 0)∧ZL 31 W (w.heap.size+1+1+1+1) (zneg x) (.slice a0 (zl x).length c0)∧ZL 31 W (w.heap.size+1+1+1+1+1) (zneg y) (.slice a1 (zl y).length c1)∧Below w.heap.size w W) ⟨QL.drew ((((((QL.made rfl).alloc _).alloc _).alloc _).alloc _).alloc _),QL.drew (((((QL.made (by first|omega|(simp;done)|(simp;omega))).alloc _).alloc _).alloc _).alloc _),ZL.drew ((((ZL.made (by first|omega|(simp;done)|(simp;omega))).alloc _).alloc _).alloc _),ZL.drew (((ZL.made (by first|omega|(simp;done)|(simp;omega))).alloc _).alloc _),ZL.drew ((ZL.made (by first|omega|(simp;done)|(simp;omega))).alloc _),ZL.drew (ZL.made (by first|omega|(simp;done)|(simp;omega))),by (repeat' first|(with_reducible first|apply bR|assumption|apply bN|apply bD|apply bL|apply bS)|go_size)⟩ ?_
  rintro W ⟨zA,zB,z1,z2,zX,zY,yb⟩
  have zAd:=zA.drew
  have zBd:=zB.drew
  have z1d:=z1.drew
  have z2d:=z2.drew
  have zXd:=zX.drew
  have zYd:=zY.drew
  have ybd:=yb.drew
  obtain ⟨⟨kA0,kA1,-,-,-⟩,kA2,-⟩:=zA
  obtain ⟨kX0,kX1,fX0,fX1,-⟩:=zX
  obtain ⟨kY0,kY1,-,-,-⟩:=zY
  go_region_with (first|(go_at_call 120;(with_reducible refine (zpow_any d _ (by omega)).mono ?_);rintro e wn ⟨aon,capn,rfl,hNn,hbn⟩;have h0n:=Nz.below (w':=wn) h0 (by (repeat' first|(with_reducible first|assumption|apply bR|apply bA|apply bN|apply bD|apply bL|apply bS)|refine bT ?_ (by assumption)|go_size));have zXn:=ZL.below (w':=wn) zXd (by (repeat' first|(with_reducible first|assumption|apply bR|apply bA|apply bN|apply bD|apply bL|apply bS)|refine bT ?_ (by assumption)|go_size));have kn0:=zXn.1;have kn1:=zXn.2.1)|(go_at_call 107;(with_reducible refine (zmul_any _ _ _ _ _ _ _ (by assumption) (by assumption) hl (Nat.le_trans (zl_len_pw _) (by omega))).mono ?_);rintro e wn ⟨aon,capn,rfl,hNn,hbn⟩;have zXn:=ZL.below (w':=wn) zXd (by (repeat' first|(with_reducible first|assumption|apply bR|apply bA|apply bN|apply bD|apply bL|apply bS)|refine bT ?_ (by assumption)|go_size));have zYn:=ZL.below (w':=wn) zYd (by (repeat' first|(with_reducible first|assumption|apply bR|apply bA|apply bN|apply bD|apply bL|apply bS)|refine bT ?_ (by assumption)|go_size));have zBn:=QL.below (w':=wn) zBd (by (repeat' first|(with_reducible first|assumption|apply bR|apply bA|apply bN|apply bD|apply bL|apply bS)|refine bT ?_ (by assumption)|go_size));have z1n:=ZL.below (w':=wn) z1d (by (repeat' first|(with_reducible first|assumption|apply bR|apply bA|apply bN|apply bD|apply bL|apply bS)|refine bT ?_ (by assumption)|go_size));have z2n:=ZL.below (w':=wn) z2d (by (repeat' first|(with_reducible first|assumption|apply bR|apply bA|apply bN|apply bD|apply bL|apply bS)|refine bT ?_ (by assumption)|go_size));have h1n:=Nz.below (w':=wn) h1 (by (repeat' first|(with_reducible first|assumption|apply bR|apply bA|apply bN|apply bD|apply bL|apply bS)|refine bT ?_ (by assumption)|go_size));have ybn:Below w.heap.size w wn:=(by (repeat' first|(with_reducible first|assumption|apply bR|apply bA|apply bN|apply bD|apply bL|apply bS)|refine bT ?_ (by assumption)|go_size));have k0:=zXn.1;have k1:=zXn.2.1;have f0:=zXn.2.2.1;have f1:=zXn.2.2.2.1))
  all_goals
   have hsX:=zXn.2.2.2.2
   have zY2:=(zYn.far ⟨(w.heap.size+1+1+1+1),0,none⟩ (.bool (zneg (x*pw d))) (by first|omega|(simp;done)|(simp;omega))).far ⟨(w.heap.size+1+1+1+1),1,none⟩ (.slice aon (zl (x*pw d)).length capn) (by first|omega|(simp;done)|(simp;omega))
   have hN2:=(hNn.setCell hsX (by decide) 0 (.bool (zneg (x*pw d)))).setCell (hsX.setCell _ _) (by decide) 1 (.slice aon (zl (x*pw d)).length capn)
   have kB2:=zBn.2.1
   obtain ⟨kY0n,kY1n,-,-,-⟩:=zYn
   obtain ⟨k10,k11,f10,f11,hsR1⟩:=z1n
   obtain ⟨k20,k21,f20,f21,hsR2⟩:=z2n
   go_wp2_with fail
   go_region
   all_goals
    go_wp2_with fail
    refine bodyPost_ret (by simp [results,Tryz.results116,go_sem,k10,k11,k20,k21];try rfl) rfl ?_
    exact ⟨_,_,_,_,rfl,((hN2.set2 (hsR1.set2 _ _ _) hne _ _).set2 ((hsR2.set2 _ _ _).set2 _ _ _) hne _ _).drew,(((h1n.set2 hsX hne _ _).set2 (hsR1.set2 _ _ _) hne _ _).set2 ((hsR2.set2 _ _ _).set2 _ _ _) hne _ _).drew,by (repeat' first|(with_reducible first|assumption|apply bR|apply bA|apply bN|apply bD|apply bL|apply bS)|refine bT ?_ (by assumption)|go_size)⟩
 ·refine wp_world (fun W=>QL 33 W w.heap.size (zneg x) (.slice a0 (zl x).length c0) ta∧QL 33 W (w.heap.size+1) (zneg y) (.slice a1 (zl y).length c1) tb∧ZL 31 W (w.heap.size+1+1) false (.slice none 0 0)∧ZL 31 W (w.heap.size+1+1+1) false (.slice none 0 0)∧ZL 31 W (w.heap.size+1+1+1+1+1) (zneg x) (.slice a0 (zl x).length c0)∧ZL 31 W (w.heap.size+1+1+1+1) (zneg y) (.slice a1 (zl y).length c1)∧Below w.heap.size w W) ⟨QL.drew ((((((QL.made rfl).alloc _).alloc _).alloc _).alloc _).alloc _),QL.drew (((((QL.made (by first|omega|(simp;done)|(simp;omega))).alloc _).alloc _).alloc _).alloc _),ZL.drew ((((ZL.made (by first|omega|(simp;done)|(simp;omega))).alloc _).alloc _).alloc _),ZL.drew (((ZL.made (by first|omega|(simp;done)|(simp;omega))).alloc _).alloc _),ZL.drew (ZL.made (by first|omega|(simp;done)|(simp;omega))),ZL.drew ((ZL.made (by first|omega|(simp;done)|(simp;omega))).alloc _),by (repeat' first|(with_reducible first|apply bR|assumption|apply bN|apply bD|apply bL|apply bS)|go_size)⟩ ?_
  rintro W ⟨zA,zB,z1,z2,zX,zY,yb⟩
  have zAd:=zA.drew
  have zBd:=zB.drew
  have z1d:=z1.drew
  have z2d:=z2.drew
  have zXd:=zX.drew
  have zYd:=zY.drew
  have ybd:=yb.drew
  obtain ⟨⟨kA0,kA1,-,-,-⟩,kA2,-⟩:=zA
  obtain ⟨kX0,kX1,fX0,fX1,-⟩:=zX
  obtain ⟨kY0,kY1,-,-,-⟩:=zY
  go_region_with (first|(go_at_call 120;(with_reducible refine (zpow_any d _ (by omega)).mono ?_);rintro e wn ⟨aon,capn,rfl,hNn,hbn⟩;have h0n:=Nz.below (w':=wn) h0 (by (repeat' first|(with_reducible first|assumption|apply bR|apply bA|apply bN|apply bD|apply bL|apply bS)|refine bT ?_ (by assumption)|go_size));have zXn:=ZL.below (w':=wn) zXd (by (repeat' first|(with_reducible first|assumption|apply bR|apply bA|apply bN|apply bD|apply bL|apply bS)|refine bT ?_ (by assumption)|go_size));have kn0:=zXn.1;have kn1:=zXn.2.1)|(go_at_call 107;(with_reducible refine (zmul_any _ _ _ _ _ _ _ (by assumption) (by assumption) hl (Nat.le_trans (zl_len_pw _) (by omega))).mono ?_);rintro e wn ⟨aon,capn,rfl,hNn,hbn⟩;have zXn:=ZL.below (w':=wn) zXd (by (repeat' first|(with_reducible first|assumption|apply bR|apply bA|apply bN|apply bD|apply bL|apply bS)|refine bT ?_ (by assumption)|go_size));have zYn:=ZL.below (w':=wn) zYd (by (repeat' first|(with_reducible first|assumption|apply bR|apply bA|apply bN|apply bD|apply bL|apply bS)|refine bT ?_ (by assumption)|go_size));have zBn:=QL.below (w':=wn) zBd (by (repeat' first|(with_reducible first|assumption|apply bR|apply bA|apply bN|apply bD|apply bL|apply bS)|refine bT ?_ (by assumption)|go_size));have z1n:=ZL.below (w':=wn) z1d (by (repeat' first|(with_reducible first|assumption|apply bR|apply bA|apply bN|apply bD|apply bL|apply bS)|refine bT ?_ (by assumption)|go_size));have z2n:=ZL.below (w':=wn) z2d (by (repeat' first|(with_reducible first|assumption|apply bR|apply bA|apply bN|apply bD|apply bL|apply bS)|refine bT ?_ (by assumption)|go_size));have h1n:=Nz.below (w':=wn) h1 (by (repeat' first|(with_reducible first|assumption|apply bR|apply bA|apply bN|apply bD|apply bL|apply bS)|refine bT ?_ (by assumption)|go_size));have ybn:Below w.heap.size w wn:=(by (repeat' first|(with_reducible first|assumption|apply bR|apply bA|apply bN|apply bD|apply bL|apply bS)|refine bT ?_ (by assumption)|go_size));have k0:=zXn.1;have k1:=zXn.2.1;have f0:=zXn.2.2.1;have f1:=zXn.2.2.2.1))
  all_goals
   have hsX:=zXn.2.2.2.2
   have zY2:=(zYn.far ⟨(w.heap.size+1+1+1+1+1),0,none⟩ (.bool (zneg (x*pw d))) (by first|omega|(simp;done)|(simp;omega))).far ⟨(w.heap.size+1+1+1+1+1),1,none⟩ (.slice aon (zl (x*pw d)).length capn) (by first|omega|(simp;done)|(simp;omega))
   have hN2:=(hNn.setCell hsX (by decide) 0 (.bool (zneg (x*pw d)))).setCell (hsX.setCell _ _) (by decide) 1 (.slice aon (zl (x*pw d)).length capn)
   have kB2:=zBn.2.1
   obtain ⟨kY0n,kY1n,-,-,-⟩:=zYn
   obtain ⟨k10,k11,f10,f11,hsR1⟩:=z1n
   obtain ⟨k20,k21,f20,f21,hsR2⟩:=z2n
   go_wp2_with fail
   go_region
   all_goals
    go_wp2_with fail
    refine bodyPost_ret (by simp [results,Tryz.results116,go_sem,k10,k11,k20,k21];try rfl) rfl ?_
    exact ⟨_,_,_,_,rfl,((hN2.set2 (hsR1.set2 _ _ _) hne _ _).set2 ((hsR2.set2 _ _ _).set2 _ _ _) hne _ _).drew,(((h1n.set2 hsX hne _ _).set2 (hsR1.set2 _ _ _) hne _ _).set2 ((hsR2.set2 _ _ _).set2 _ _ _) hne _ _).drew,by (repeat' first|(with_reducible first|assumption|apply bR|apply bA|apply bN|apply bD|apply bL|apply bS)|refine bT ?_ (by assumption)|go_size)⟩
theorem level_gt (a0 a1:Option Addr) (c0 c1:Nat) (x y:Int) (ta tb d:Nat) (w:World) (h0:Nz 3 w a0 c0 (zl x)) (h1:Nz 3 w a1 c1 (zl y)) (hd:ta=tb+d) (hp:0<d) (hl:(zl y).length≤1073741824) (hs:d≤100000000) (hs2:ta≤1000000000000):
 Calls Tryz.prog 116 #[.agg #[.bool (zneg x),.slice a0 (zl x).length c0,.int .i64 (ta:Int)],.agg #[.bool (zneg y),.slice a1 (zl y).length c1,.int .i64 (tb:Int)]] w fun e w'=>RetL 3 w x (y*pw d) ta e w':=by
 have hm:max (ta:Int) (tb:Int)=ta:=by omega
 have hd2:(ta:Int)-(tb:Int)=(d:Int):=by omega
 have hlt:(tb:Int)<(ta:Int):=by omega
 have hw:IntKind.i64.wrap (d:Int)=(d:Int):=IntWalk.i64_in _ (by omega)
 have hne:(31:TypeId)≠3:=by decide
 clear hd
 go_enter Tryz.func116,Tryz.ntmps116
 go_wp2_with fail
 go_region
 all_goals go_wp2_with fail
 ·refine wp_world (fun W=>QL 33 W w.heap.size (zneg x) (.slice a0 (zl x).length c0) ta∧QL 33 W (w.heap.size+1) (zneg y) (.slice a1 (zl y).length c1) tb∧ZL 31 W (w.heap.size+1+1) false (.slice none 0 0)∧ZL 31 W (w.heap.size+1+1+1) false (.slice none 0 0)∧ZL 31 W (w.heap.size+1+1+1+1) (zneg x) (.slice a0 (zl x).length c0)∧ZL 31 W (w.heap.size+1+1+1+1+1) (zneg y) (.slice a1 (zl y).length c1)∧Below w.heap.size w W) ⟨QL.drew ((((((QL.made rfl).alloc _).alloc _).alloc _).alloc _).alloc _),QL.drew (((((QL.made (by first|omega|(simp;done)|(simp;omega))).alloc _).alloc _).alloc _).alloc _),ZL.drew ((((ZL.made (by first|omega|(simp;done)|(simp;omega))).alloc _).alloc _).alloc _),ZL.drew (((ZL.made (by first|omega|(simp;done)|(simp;omega))).alloc _).alloc _),ZL.drew ((ZL.made (by first|omega|(simp;done)|(simp;omega))).alloc _),ZL.drew (ZL.made (by first|omega|(simp;done)|(simp;omega))),by (repeat' first|(with_reducible first|apply bR|assumption|apply bN|apply bD|apply bL|apply bS)|go_size)⟩ ?_
  rintro W ⟨zA,zB,z1,z2,zX,zY,yb⟩
  have zAd:=zA.drew
  have zBd:=zB.drew
  have z1d:=z1.drew
  have z2d:=z2.drew
  have zXd:=zX.drew
  have zYd:=zY.drew
  have ybd:=yb.drew
  obtain ⟨⟨kA0,kA1,-,-,-⟩,kA2,-⟩:=zA
  obtain ⟨⟨kB0,kB1,-,-,-⟩,kB2,-⟩:=zB
  obtain ⟨kX0,kX1,-,-,-⟩:=zX
  obtain ⟨kY0,kY1,fY0,fY1,-⟩:=zY
  go_wp2_with fail
  go_region_with (first|(go_at_call 120;(with_reducible refine (zpow_any d _ (by omega)).mono ?_);rintro e wn ⟨aon,capn,rfl,hNn,hbn⟩;have h1n:=Nz.below (w':=wn) h1 (by (repeat' first|(with_reducible first|assumption|apply bR|apply bA|apply bN|apply bD|apply bL|apply bS)|refine bT ?_ (by assumption)|go_size));have zYn:=ZL.below (w':=wn) zYd (by (repeat' first|(with_reducible first|assumption|apply bR|apply bA|apply bN|apply bD|apply bL|apply bS)|refine bT ?_ (by assumption)|go_size));have kn0:=zYn.1;have kn1:=zYn.2.1)|(go_at_call 107;(with_reducible refine (zmul_any _ _ _ _ _ _ _ (by assumption) (by assumption) hl (Nat.le_trans (zl_len_pw _) (by omega))).mono ?_);rintro e wn ⟨aon,capn,rfl,hNn,hbn⟩;have zXn:=ZL.below (w':=wn) zXd (by (repeat' first|(with_reducible first|assumption|apply bR|apply bA|apply bN|apply bD|apply bL|apply bS)|refine bT ?_ (by assumption)|go_size));have zYn:=ZL.below (w':=wn) zYd (by (repeat' first|(with_reducible first|assumption|apply bR|apply bA|apply bN|apply bD|apply bL|apply bS)|refine bT ?_ (by assumption)|go_size));have z1n:=ZL.below (w':=wn) z1d (by (repeat' first|(with_reducible first|assumption|apply bR|apply bA|apply bN|apply bD|apply bL|apply bS)|refine bT ?_ (by assumption)|go_size));have z2n:=ZL.below (w':=wn) z2d (by (repeat' first|(with_reducible first|assumption|apply bR|apply bA|apply bN|apply bD|apply bL|apply bS)|refine bT ?_ (by assumption)|go_size));have h0n:=Nz.below (w':=wn) h0 (by (repeat' first|(with_reducible first|assumption|apply bR|apply bA|apply bN|apply bD|apply bL|apply bS)|refine bT ?_ (by assumption)|go_size));have ybn:Below w.heap.size w wn:=(by (repeat' first|(with_reducible first|assumption|apply bR|apply bA|apply bN|apply bD|apply bL|apply bS)|refine bT ?_ (by assumption)|go_size));have k0:=zYn.1;have k1:=zYn.2.1;have f0:=zYn.2.2.1;have f1:=zYn.2.2.2.1))
  all_goals
   have hsY:=zYn.2.2.2.2
   have hN2:=(hNn.setCell hsY hne 0 (.bool (zneg (y*pw d)))).setCell (hsY.setCell _ _) hne 1 (.slice aon (zl (y*pw d)).length capn)
   obtain ⟨kX0n,kX1n,-,-,-⟩:=zXn
   obtain ⟨k10,k11,f10,f11,hsR1⟩:=z1n
   obtain ⟨k20,k21,f20,f21,hsR2⟩:=z2n
   go_wp2_with fail
   go_region
   all_goals
    go_wp2_with fail
    refine bodyPost_ret (by simp [results,Tryz.results116,go_sem,k10,k11,k20,k21];try rfl) rfl ?_
    exact ⟨_,_,_,_,rfl,(((h0n.set2 hsY hne _ _).set2 (hsR1.set2 _ _ _) hne _ _).set2 ((hsR2.set2 _ _ _).set2 _ _ _) hne _ _).drew,((hN2.set2 (hsR1.set2 _ _ _) hne _ _).set2 ((hsR2.set2 _ _ _).set2 _ _ _) hne _ _).drew,by (repeat' first|(with_reducible first|assumption|apply bR|apply bA|apply bN|apply bD|apply bL|apply bS)|refine bT ?_ (by assumption)|go_size)⟩
 ·refine wp_world (fun W=>QL 33 W w.heap.size (zneg x) (.slice a0 (zl x).length c0) ta∧QL 33 W (w.heap.size+1) (zneg y) (.slice a1 (zl y).length c1) tb∧ZL 31 W (w.heap.size+1+1) false (.slice none 0 0)∧ZL 31 W (w.heap.size+1+1+1) false (.slice none 0 0)∧ZL 31 W (w.heap.size+1+1+1+1+1) (zneg x) (.slice a0 (zl x).length c0)∧ZL 31 W (w.heap.size+1+1+1+1) (zneg y) (.slice a1 (zl y).length c1)∧Below w.heap.size w W) ⟨QL.drew ((((((QL.made rfl).alloc _).alloc _).alloc _).alloc _).alloc _),QL.drew (((((QL.made (by first|omega|(simp;done)|(simp;omega))).alloc _).alloc _).alloc _).alloc _),ZL.drew ((((ZL.made (by first|omega|(simp;done)|(simp;omega))).alloc _).alloc _).alloc _),ZL.drew (((ZL.made (by first|omega|(simp;done)|(simp;omega))).alloc _).alloc _),ZL.drew (ZL.made (by first|omega|(simp;done)|(simp;omega))),ZL.drew ((ZL.made (by first|omega|(simp;done)|(simp;omega))).alloc _),by (repeat' first|(with_reducible first|apply bR|assumption|apply bN|apply bD|apply bL|apply bS)|go_size)⟩ ?_
  rintro W ⟨zA,zB,z1,z2,zX,zY,yb⟩
  have zAd:=zA.drew
  have zBd:=zB.drew
  have z1d:=z1.drew
  have z2d:=z2.drew
  have zXd:=zX.drew
  have zYd:=zY.drew
  have ybd:=yb.drew
  obtain ⟨⟨kA0,kA1,-,-,-⟩,kA2,-⟩:=zA
  obtain ⟨⟨kB0,kB1,-,-,-⟩,kB2,-⟩:=zB
  obtain ⟨kX0,kX1,-,-,-⟩:=zX
  obtain ⟨kY0,kY1,fY0,fY1,-⟩:=zY
  go_wp2_with fail
  go_region_with (first|(go_at_call 120;(with_reducible refine (zpow_any d _ (by omega)).mono ?_);rintro e wn ⟨aon,capn,rfl,hNn,hbn⟩;have h1n:=Nz.below (w':=wn) h1 (by (repeat' first|(with_reducible first|assumption|apply bR|apply bA|apply bN|apply bD|apply bL|apply bS)|refine bT ?_ (by assumption)|go_size));have zYn:=ZL.below (w':=wn) zYd (by (repeat' first|(with_reducible first|assumption|apply bR|apply bA|apply bN|apply bD|apply bL|apply bS)|refine bT ?_ (by assumption)|go_size));have kn0:=zYn.1;have kn1:=zYn.2.1)|(go_at_call 107;(with_reducible refine (zmul_any _ _ _ _ _ _ _ (by assumption) (by assumption) hl (Nat.le_trans (zl_len_pw _) (by omega))).mono ?_);rintro e wn ⟨aon,capn,rfl,hNn,hbn⟩;have zXn:=ZL.below (w':=wn) zXd (by (repeat' first|(with_reducible first|assumption|apply bR|apply bA|apply bN|apply bD|apply bL|apply bS)|refine bT ?_ (by assumption)|go_size));have zYn:=ZL.below (w':=wn) zYd (by (repeat' first|(with_reducible first|assumption|apply bR|apply bA|apply bN|apply bD|apply bL|apply bS)|refine bT ?_ (by assumption)|go_size));have z1n:=ZL.below (w':=wn) z1d (by (repeat' first|(with_reducible first|assumption|apply bR|apply bA|apply bN|apply bD|apply bL|apply bS)|refine bT ?_ (by assumption)|go_size));have z2n:=ZL.below (w':=wn) z2d (by (repeat' first|(with_reducible first|assumption|apply bR|apply bA|apply bN|apply bD|apply bL|apply bS)|refine bT ?_ (by assumption)|go_size));have h0n:=Nz.below (w':=wn) h0 (by (repeat' first|(with_reducible first|assumption|apply bR|apply bA|apply bN|apply bD|apply bL|apply bS)|refine bT ?_ (by assumption)|go_size));have ybn:Below w.heap.size w wn:=(by (repeat' first|(with_reducible first|assumption|apply bR|apply bA|apply bN|apply bD|apply bL|apply bS)|refine bT ?_ (by assumption)|go_size));have k0:=zYn.1;have k1:=zYn.2.1;have f0:=zYn.2.2.1;have f1:=zYn.2.2.2.1))
  all_goals
   have hsY:=zYn.2.2.2.2
   have hN2:=(hNn.setCell hsY hne 0 (.bool (zneg (y*pw d)))).setCell (hsY.setCell _ _) hne 1 (.slice aon (zl (y*pw d)).length capn)
   obtain ⟨kX0n,kX1n,-,-,-⟩:=zXn
   obtain ⟨k10,k11,f10,f11,hsR1⟩:=z1n
   obtain ⟨k20,k21,f20,f21,hsR2⟩:=z2n
   go_wp2_with fail
   go_region
   all_goals
    go_wp2_with fail
    refine bodyPost_ret (by simp [results,Tryz.results116,go_sem,k10,k11,k20,k21];try rfl) rfl ?_
    exact ⟨_,_,_,_,rfl,(((h0n.set2 hsY hne _ _).set2 (hsR1.set2 _ _ _) hne _ _).set2 ((hsR2.set2 _ _ _).set2 _ _ _) hne _ _).drew,((hN2.set2 (hsR1.set2 _ _ _) hne _ _).set2 ((hsR2.set2 _ _ _).set2 _ _ _) hne _ _).drew,by (repeat' first|(with_reducible first|assumption|apply bR|apply bA|apply bN|apply bD|apply bL|apply bS)|refine bT ?_ (by assumption)|go_size)⟩
end Go.Proofs.YtfphmlmgjhebjaaGreatDoor
namespace Go.Ulp
open Go.RowKit
def QD (t:TypeId) (w:World) (D:Dy) (A T:Nat) (v:Value):Prop:=
 ∃(x:Int) (n:Nat) (ao:Option Addr) (cap:Nat),v=.agg #[.bool (zneg x),.slice ao (zl x).length cap,.int .i64 (n:Int)]∧Nz t w ao cap (zl x)∧nrm x (-(n:Int))=D∧x.natAbs<2^A∧n≤T
def RetQD (t:TypeId) (w:World) (D:Dy) (A T:Nat) (e:Ending) (w':World):Prop:=
 ∃v,e=.returned v∧QD t w' D A T v∧Below w.heap.size w w'
theorem QD.below {t:TypeId} {w w':World} {D:Dy} {A T:Nat} {v:Value} (h:QD t w D A T v) (hb:Below w.heap.size w w'):QD t w' D A T v:=by
 obtain ⟨x,n,ao,cap,h1,h2,h3⟩:=h
 exact ⟨x,n,ao,cap,h1,h2.below hb,h3⟩
theorem QD.weak {t:TypeId} {w:World} {D:Dy} {A T A' T':Nat} {v:Value} (h:QD t w D A T v) (hA:A≤A') (hT:T≤T'):QD t w D A' T' v:=by
 obtain ⟨x,n,ao,cap,h1,h2,h3,h4,h5⟩:=h
 exact ⟨x,n,ao,cap,h1,h2,h3,Nat.lt_of_lt_of_le h4 (Nat.pow_le_pow_right (by omega) hA),by omega⟩
theorem RetQD.weak {t:TypeId} {w:World} {D:Dy} {A T A' T':Nat} {e:Ending} {w':World} (h:RetQD t w D A T e w') (hA:A≤A') (hT:T≤T'):RetQD t w D A' T' e w':=by
 obtain ⟨v,h1,h2,h3⟩:=h
 exact ⟨v,h1,h2.weak hA hT,h3⟩
theorem RetQ.qd {t:TypeId} {w:World} {x:Int} {n:Nat} {e:Ending} {w':World} {D:Dy} {A T:Nat} (h:RetQ t w x n e w') (hD:nrm x (-(n:Int))=D) (hA:x.natAbs<2^A) (hT:n≤T):RetQD t w D A T e w':=by
 obtain ⟨ao,cap,h1,h2,h3⟩:=h
 exact ⟨_,h1,⟨x,n,ao,cap,rfl,h2,hD,hA,hT⟩,h3⟩
theorem sc_pw (x:Int) (n m:Nat) (h:n≤m):sc x (-(n:Int)) (-(m:Int))=x*pw (m-n):=by unfold sc;congr 2;omega
theorem abs_mul_pw_lt {x:Int} {A k:Nat} (h:x.natAbs<2^A):(x*pw k).natAbs<2^(A+k):=by
 rw [natAbs_mul_pw,Nat.pow_add];exact Nat.mul_lt_mul_of_pos_right h (Nat.two_pow_pos k)
theorem abs_add_lt {x y:Int} {A:Nat} (h:x.natAbs<2^A) (h':y.natAbs<2^A):(x+y).natAbs<2^(A+1):=by
 rw [Nat.pow_succ];omega
theorem abs_weak {x:Int} {A B:Nat} (h:x.natAbs<2^A) (hAB:A≤B):x.natAbs<2^B:=Nat.lt_of_lt_of_le h (Nat.pow_le_pow_right (by omega) hAB)
end Go.Ulp
namespace Go.Proofs.YtfphmlmgjhebjaaGreatDoor
open Go.RowKit Go.Ulp
set_option maxHeartbeats 1000000
set_option maxRecDepth 100000
theorem level_any (a0 a1:Option Addr) (c0 c1:Nat) (x y:Int) (ta tb:Nat) (w:World) (h0:Nz 3 w a0 c0 (zl x)) (h1:Nz 3 w a1 c1 (zl y)) (hx:(zl x).length≤1073741824) (hy:(zl y).length≤1073741824) (hs:ta≤100000000) (hs2:tb≤100000000):
 Calls Tryz.prog 116 #[.agg #[.bool (zneg x),.slice a0 (zl x).length c0,.int .i64 (ta:Int)],.agg #[.bool (zneg y),.slice a1 (zl y).length c1,.int .i64 (tb:Int)]] w fun e w'=>RetL 3 w (x*pw (max ta tb-ta)) (y*pw (max ta tb-tb)) ((max ta tb:Nat):Int) e w':=by
 rcases Nat.lt_trichotomy ta tb with h|h|h
 ·have e1:max ta tb=tb:=by omega
  have:=level_lt a0 a1 c0 c1 x y ta tb (tb-ta) w h0 h1 (by omega) (by omega) hx (by omega) (by omega)
  rw [e1,Nat.sub_self,pw_zero,Int.mul_one];exact this
 ·subst h
  have:=level_eq a0 a1 c0 c1 x y ta w h0 h1
  rw [Nat.max_self,Nat.sub_self,pw_zero,Int.mul_one,Int.mul_one];exact this
 ·have e1:max ta tb=ta:=by omega
  have:=level_gt a0 a1 c0 c1 x y ta tb (ta-tb) w h0 h1 (by omega) (by omega) hy (by omega) (by omega)
  rw [e1,Nat.sub_self,pw_zero,Int.mul_one];exact this
theorem qcmp_any (v u:Value) (D E:Dy) (A T B S:Nat) (w:World) (hv:QD 3 w D A T v) (hu:QD 3 w E B S u) (hA:A≤1000000000) (hB:B≤1000000000) (hT:T≤100000000) (hS:S≤100000000):
 Calls Tryz.prog 62 #[v,u] w fun e w'=>e=.returned (.int .i64 (cmpD D E))∧Below w.heap.size w w':=by
 obtain ⟨x,n,a0,c0,rfl,h0,hD,hxA,hn⟩:=hv
 obtain ⟨y,m,a1,c1,rfl,h1,hE,hyB,hm⟩:=hu
 have lx:=zl_len_bits x A hxA
 have ly:=zl_len_bits y B hyB
 have hfin:=hid (show cmpI (x*pw (max n m-n)) (y*pw (max n m-m))=cmpD D E by
  rw [←hD,←hE,←sc_pw x n (max n m) (by omega),←sc_pw y m (max n m) (by omega)]
  exact cmp_nrm _ _ _ _ _ (.inl (by omega)) (.inl (by omega)))
 clear hD hE hxA hyB
 go_enter Tryz.func62,Tryz.ntmps62
 go_wp2_with ((go_at_call 116;refine (level_any a0 a1 c0 c1 x y n m _ (h0.below (by (repeat' first|(with_reducible first|assumption|apply bR|apply bA|apply bN|apply bD|apply bL|apply bS)|refine bT ?_ (by assumption)|go_size))) (h1.below (by (repeat' first|(with_reducible first|assumption|apply bR|apply bA|apply bN|apply bD|apply bL|apply bS)|refine bT ?_ (by assumption)|go_size))) (by omega) (by omega) (by omega) (by omega)).mono ?_;rintro e w1 ⟨ao,cap,bo,cbp,rfl,hX,hY,hb⟩;have yb:Below w.heap.size w w1:=(by (repeat' first|(with_reducible first|assumption|apply bR|apply bA|apply bN|apply bD|apply bL|apply bS)|refine bT ?_ (by assumption)|go_size))))
 refine (zcmp_any _ _ _ _ _ _ _ (hX.below (by (repeat' first|(with_reducible first|assumption|apply bR|apply bA|apply bN|apply bD|apply bL|apply bS)|refine bT ?_ (by assumption)|go_size))) (hY.below (by (repeat' first|(with_reducible first|assumption|apply bR|apply bA|apply bN|apply bD|apply bL|apply bS)|refine bT ?_ (by assumption)|go_size)))).mono ?_
 rintro e w2 ⟨rfl,hb2⟩
 go_wp2_with fail
 go_ret
 exact ⟨ret_int hfin.out,by (repeat' first|(with_reducible first|assumption|apply bR|apply bA|apply bN|apply bD|apply bL|apply bS)|refine bT ?_ (by assumption)|go_size)⟩
theorem qadd_any (v u:Value) (D E:Dy) (A T B S:Nat) (w:World) (hv:QD 3 w D A T v) (hu:QD 3 w E B S u) (hA:A≤100000000) (hB:B≤100000000) (hT:T≤100000000) (hS:S≤100000000):
 Calls Tryz.prog 60 #[v,u] w fun e w'=>RetQD 3 w (addD D E) (max A B+max T S+1) (max T S) e w':=by
 obtain ⟨x,n,a0,c0,rfl,h0,hD,hxA,hn⟩:=hv
 obtain ⟨y,m,a1,c1,rfl,h1,hE,hyB,hm⟩:=hu
 have lx:=zl_len_bits x A hxA
 have ly:=zl_len_bits y B hyB
 have hD':=hid (show nrm (x*pw (max n m-n)+y*pw (max n m-m)) (-((max n m:Nat):Int))=addD D E by
  rw [←hD,←hE,←sc_pw x n (max n m) (by omega),←sc_pw y m (max n m) (by omega)]
  exact nrm_add _ _ _ _ _ (.inl (by omega)) (.inl (by omega)))
 have b1:=abs_weak (abs_mul_pw_lt (k:=max n m-n) hxA) (show A+(max n m-n)≤max A B+max T S by omega)
 have b2:=abs_weak (abs_mul_pw_lt (k:=max n m-m) hyB) (show B+(max n m-m)≤max A B+max T S by omega)
 have l1:=zl_len_bits _ _ b1
 have l2:=zl_len_bits _ _ b2
 have b3:=hid (abs_add_lt b1 b2)
 have hk:=hid (show max n m≤max T S by omega)
 clear hD hE hxA hyB b1 b2
 obtain ⟨X,hX⟩: ∃X,X=x*pw (max n m-n):=⟨_,rfl⟩
 obtain ⟨Y,hY⟩: ∃Y,Y=y*pw (max n m-m):=⟨_,rfl⟩
 obtain ⟨K,hK⟩: ∃K,K=max n m:=⟨_,rfl⟩
 have hlv:=fun w1 (g0:Nz 3 w1 a0 c0 (zl x)) (g1:Nz 3 w1 a1 c1 (zl y))=>level_any a0 a1 c0 c1 x y n m w1 g0 g1 (by omega) (by omega) (by omega) (by omega)
 rw [←hX,←hY,←hK] at hlv
 rw [←hX,←hY,←hK] at hD'
 rw [←hX,←hY] at b3
 rw [←hX] at l1
 rw [←hY] at l2
 rw [←hK] at hk
 have hlv:=hid hlv
 clear hX hY hK
 go_enter Tryz.func60,Tryz.ntmps60
 go_wp2_with fail
 have zR0:QL 33 (((w.alloc (.cells #[.bool (zneg x),.slice a0 (zl x).length c0,.int .i64 (n:Int)] 33)).alloc (.cells #[.bool (zneg y),.slice a1 (zl y).length c1,.int .i64 (m:Int)] 33)).alloc (.cells #[.bool false,.slice none 0 0,.int .i64 0] 33)) (w.heap.size+1+1) false (.slice none 0 0) 0:=QL.made (by first|omega|(simp;done)|(simp;omega))
 refine (hlv.out _ (h0.below (by (repeat' first|(with_reducible first|assumption|apply bR|apply bA|apply bN|apply bD|apply bL|apply bS)|refine bT ?_ (by assumption)|go_size))) (h1.below (by (repeat' first|(with_reducible first|assumption|apply bR|apply bA|apply bN|apply bD|apply bL|apply bS)|refine bT ?_ (by assumption)|go_size)))).mono ?_
 rintro e w1 ⟨ao,cap,bo,cbp,rfl,hX,hY,hb⟩
 have zR1:=zR0.below hb
 have yb1:Below w.heap.size w w1:=below_trans (by (repeat' first|(with_reducible first|assumption|apply bR|apply bA|apply bN|apply bD|apply bL|apply bS)|refine bT ?_ (by assumption)|go_size)) hb
 clear zR0 hb
 go_wp2_with fail
 have zR2:=(zR1.alloc (.cells #[.bool (zneg X),.slice ao (zl X).length cap] 31)).alloc (.cells #[.bool (zneg Y),.slice bo (zl Y).length cbp] 31)
 refine (zadd_any _ _ _ _ _ _ _ (hX.below (by (repeat' first|(with_reducible first|assumption|apply bR|apply bA|apply bN|apply bD|apply bL|apply bS)|refine bT ?_ (by assumption)|go_size))) (hY.below (by (repeat' first|(with_reducible first|assumption|apply bR|apply bA|apply bN|apply bD|apply bL|apply bS)|refine bT ?_ (by assumption)|go_size))) (by omega) (by omega)).mono ?_
 rintro e w2 ⟨ao2,cap2,rfl,hN2,hb2⟩
 have zR:=zR2.below hb2
 have yb:Below w.heap.size w w2:=below_trans (by (repeat' first|(with_reducible first|assumption|apply bR|apply bA|apply bN|apply bD|apply bL|apply bS)|refine bT ?_ (by assumption)|go_size)) hb2
 clear zR1 zR2 hb2 yb1
 obtain ⟨⟨k0,k1,f0,f1,hs2⟩,k2,f2⟩:=zR
 go_wp2_with fail
 refine bodyPost_ret (by simp [results,Tryz.results60,go_sem,k0,k1,k2];try rfl) rfl ?_
 exact ⟨_,rfl,⟨_,_,_,_,rfl,((hN2.setCell hs2 (by decide) _ _).setCell (hs2.setCell _ _) (by decide) _ _).setCell ((hs2.setCell _ _).setCell _ _) (by decide) _ _,hD'.out,b3.out,hk.out⟩,((yb.setCell (by first|omega|(simp;done)|(simp;omega)) _).setCell (by first|omega|(simp;done)|(simp;omega)) _).setCell (by first|omega|(simp;done)|(simp;omega)) _⟩
end Go.Proofs.YtfphmlmgjhebjaaGreatDoor
namespace Go.Ulp
open Go.RowKit
def mantOf (x:Int):Int:=if 0<expOf x then fracOf x+4503599627370496 else fracOf x
def dexp (x:Int):Int:=max (expOf x) 1-1075
def fv (x:Int):Dy:=nrm (sg (negB x) (mantOf x)) (dexp x)
theorem mantOf_bd (x:Int):0≤mantOf x∧mantOf x<9007199254740992:=by have:=fracOf_bd x;unfold mantOf;split<;>omega
theorem dexp_bd (x:Int): -1074≤dexp x∧dexp x≤972:=by have:=expOf_bd x;unfold dexp;omega
end Go.Ulp
namespace Go.Proofs.YtfphmlmgjhebjaaGreatDoor
open Go.RowKit Go.Ulp
set_option maxHeartbeats 1000000
set_option maxRecDepth 100000
theorem qmake_any (a0:Option Addr) (c0:Nat) (x:Int) (n:Int) (A E:Nat) (w:World) (h0:Nz 3 w a0 c0 (zl x)) (hx:x.natAbs<2^A) (hA:A≤1000000000) (hn: -(E:Int)≤n∧n≤E) (hE:E≤1000000):
 Calls Tryz.prog 109 #[.agg #[.bool (zneg x),.slice a0 (zl x).length c0],.int .i64 n] w fun e w'=>RetQD 3 w (nrm x n) (A+E) E e w':=by
 have lx:=zl_len_bits x A hx
 by_cases h:n<0
 ·have e1: -n=(((-n).toNat:Nat):Int):=by omega
  refine (qmake_neg a0 c0 x n w h0 h (by omega)).mono ?_
  intro e w' hr
  rw [e1] at hr
  exact hr.qd (by congr 1;omega) (abs_weak hx (by omega)) (by omega)
 ·obtain ⟨k,rfl⟩:=Int.eq_ofNat_of_zero_le (show 0≤n by omega)
  refine (qmake_pos a0 c0 x k w h0 (by omega) (by omega)).mono ?_
  intro e w' hr
  exact RetQ.qd (n:=0) hr (by rw [nrm_scale];congr 1;omega) (abs_weak (abs_mul_pw_lt hx) (by omega)) (by omega)
theorem qneg_any (v:Value) (D:Dy) (A T:Nat) (w:World) (hv:QD 3 w D A T v) (hA:A≤100000000) (hT:T≤100000000):
 Calls Tryz.prog 14 #[v] w fun e w'=>RetQD 3 w (negD D) A T e w':=by
 obtain ⟨x,n,a0,c0,rfl,h0,hD,hxA,hn⟩:=hv
 have hD':=hid (show nrm (-x) (-(n:Int))=negD D by rw [←hD,nrm_neg])
 have hA':=hid (show (-x).natAbs<2^A by rw [Int.natAbs_neg];exact hxA)
 clear hD hxA
 go_enter Tryz.func14,Tryz.ntmps14
 go_wp2_with fail
 have zR0:QL 33 ((w.alloc (.cells #[.bool (zneg x),.slice a0 (zl x).length c0,.int .i64 (n:Int)] 33)).alloc (.cells #[.bool false,.slice none 0 0,.int .i64 0] 33)) (w.heap.size+1) false (.slice none 0 0) 0:=QL.made (by first|omega|(simp;done)|(simp;omega))
 have zA0:QL 33 ((w.alloc (.cells #[.bool (zneg x),.slice a0 (zl x).length c0,.int .i64 (n:Int)] 33)).alloc (.cells #[.bool false,.slice none 0 0,.int .i64 0] 33)) w.heap.size (zneg x) (.slice a0 (zl x).length c0) n:=(QL.made rfl).alloc _
 have zR:=zR0.drew
 have zA:=zA0.drew
 have yb:Below w.heap.size w ((w.alloc (.cells #[.bool (zneg x),.slice a0 (zl x).length c0,.int .i64 (n:Int)] 33)).alloc (.cells #[.bool false,.slice none 0 0,.int .i64 0] 33)).drew:=by (repeat' first|(with_reducible first|assumption|apply bR|apply bA|apply bN|apply bD|apply bL|apply bS)|refine bT ?_ (by assumption)|go_size)
 clear zR0 zA0
 go_region_with (go_at_call 55;refine (zneg_any _ _ _ _ (h0.below (by (repeat' first|(with_reducible first|assumption|apply bR|apply bA|apply bN|apply bD|apply bL|apply bS)|refine bT ?_ (by assumption)|go_size)))).mono ?_;rintro e wn ⟨aon,capn,rfl,hNn,hbn⟩;have zRn:=QL.below (w':=wn) zR (by (repeat' first|(with_reducible first|assumption|apply bR|apply bA|apply bN|apply bD|apply bL|apply bS)|refine bT ?_ (by assumption)|go_size));have zAn:=QL.below (w':=wn) zA (by (repeat' first|(with_reducible first|assumption|apply bR|apply bA|apply bN|apply bD|apply bL|apply bS)|refine bT ?_ (by assumption)|go_size));have ybn:Below w.heap.size w wn:=(by (repeat' first|(with_reducible first|assumption|apply bR|apply bA|apply bN|apply bD|apply bL|apply bS)|refine bT ?_ (by assumption)|go_size));have k0:=zRn.1.1;have k1:=zRn.1.2.1;have f0:=zRn.1.2.2.1;have f1:=zRn.1.2.2.2.1;have k2:=zRn.2.1;have f2:=zRn.2.2;have j0:=zAn.1.1;have j1:=zAn.1.2.1;have j2:=zAn.2.1)
 all_goals
  have hs2:=zRn.1.2.2.2.2
  go_wp2_with fail
  refine bodyPost_ret (by simp [results,Tryz.results14,go_sem,k0,k1,k2];try rfl) rfl ?_
  exact ⟨_,rfl,⟨_,_,_,_,rfl,((hNn.setCell hs2 (by decide) _ _).setCell (hs2.setCell _ _) (by decide) _ _).setCell ((hs2.setCell _ _).setCell _ _) (by decide) _ _,hD'.out,hA'.out,hn⟩,((ybn.setCell (by first|omega|(simp;done)|(simp;omega)) _).setCell (by first|omega|(simp;done)|(simp;omega)) _).setCell (by first|omega|(simp;done)|(simp;omega)) _⟩
theorem qshift_any (v:Value) (D:Dy) (A T:Nat) (n:Int) (w:World) (hv:QD 3 w D A T v) (hA:A≤100000000) (hT:T≤200000) (hn1: -200000≤n) (hn2:n≤200000):
 Calls Tryz.prog 115 #[v,.int .i64 n] w fun e w'=>RetQD 3 w (shD D n) (A+400000) 400000 e w':=by
 obtain ⟨x,t,a0,c0,rfl,h0,hD,hxA,hn⟩:=hv
 have hD':=hid (show nrm x (n-(t:Int))=shD D n by rw [←hD,←nrm_shift];congr 1;omega)
 have hxA':=hid hxA
 clear hD hxA
 go_enter Tryz.func115,Tryz.ntmps115
 go_wp2_with fail
 have zR0:QL 33 ((w.alloc (.cells #[.bool (zneg x),.slice a0 (zl x).length c0,.int .i64 (t:Int)] 33)).alloc (.cells #[.bool false,.slice none 0 0,.int .i64 0] 33)) (w.heap.size+1) false (.slice none 0 0) 0:=QL.made (by first|omega|(simp;done)|(simp;omega))
 refine (qmake_any _ _ _ _ A 400000 _ (h0.below (by (repeat' first|(with_reducible first|assumption|apply bR|apply bA|apply bN|apply bD|apply bL|apply bS)|refine bT ?_ (by assumption)|go_size))) hxA'.out (by omega) ⟨by omega,by omega⟩ (by omega)).mono ?_
 rintro e w1 ⟨v1,rfl,⟨y,s,b0,d0,rfl,hY,hE,hyA,hs⟩,hb⟩
 have zR:=zR0.below hb
 have yb:Below w.heap.size w w1:=below_trans (by (repeat' first|(with_reducible first|assumption|apply bR|apply bA|apply bN|apply bD|apply bL|apply bS)|refine bT ?_ (by assumption)|go_size)) hb
 rw [hD'.out] at hE
 have HE:=hid hE
 have HYA:=hid hyA
 clear zR0 hb hE hyA
 obtain ⟨⟨k0,k1,f0,f1,hs2⟩,k2,f2⟩:=zR
 go_wp2_with fail
 refine bodyPost_ret (by simp [results,Tryz.results115,go_sem,k0,k1,k2];try rfl) rfl ?_
 exact ⟨_,rfl,⟨_,_,_,_,rfl,((hY.setCell hs2 (by decide) _ _).setCell (hs2.setCell _ _) (by decide) _ _).setCell ((hs2.setCell _ _).setCell _ _) (by decide) _ _,HE.out,HYA.out,hs⟩,((yb.setCell (by first|omega|(simp;done)|(simp;omega)) _).setCell (by first|omega|(simp;done)|(simp;omega)) _).setCell (by first|omega|(simp;done)|(simp;omega)) _⟩
end Go.Proofs.YtfphmlmgjhebjaaGreatDoor
namespace Go.Ulp
theorem sg_mul (neg:Bool) (x y:Int):sg neg x*y=sg neg (x*y):=by unfold sg;cases neg<;>simp [Int.neg_mul]
open Go.RowKit
theorem QL.far {t:TypeId} {w:World} {g:Nat} {n:Bool} {v:Value} {k:Int} (h:QL t w g n v k) (a:Addr) (u:Value) (hne:g≠a.block):QL t (w.setCell a u) g n v k:=by
 refine ⟨h.1.far a u hne,?_,?_⟩
 ·rw [World.cell?_setCell_other (h:=fun e=>hne (by rw [e]))];exact h.2.1
 ·rw [frozen_setCell];exact h.2.2
theorem QL.set2far {t:TypeId} {w:World} {g:Nat} {n:Bool} {v:Value} {k:Int} (h:QL t w g n v k) {b:Nat} {u u':Value} (hne:g≠b):QL t ((w.setCell ⟨b,0,none⟩ u).setCell ⟨b,1,none⟩ u') g n v k:=
 (h.far _ _ hne).far _ _ hne
end Go.Ulp
namespace Go.Proofs.YtfphmlmgjhebjaaGreatDoor
open Go.RowKit Go.Ulp
set_option maxHeartbeats 1000000
set_option maxRecDepth 100000
theorem zN9_any (w:World):Calls Tryz.prog 108 #[.int .i64 1000000000] w fun e w'=>RetZ 3 w 1000000000 e w':=zN_any 1000000000 (by omega) w
theorem qval_gen (A:Nat) (hA:1127≤A) (x:Int) (hx0:0≤x) (hx1:x<18446744073709551616) (w:World):
 Calls Tryz.prog 54 #[.int .u64 x] w fun e w'=>RetQD 3 w (fv x) A 1100 e w':=by
 have hmb:=mantOf_bd x
 have hdb:=dexp_bd x
 have hfb:=fracOf_bd x
 have heb:=expOf_bd x
 obtain ⟨m,hm⟩:=Int.eq_ofNat_of_zero_le hmb.1
 have hmax:max (expOf x) 1-1075=dexp x:=rfl
 have hfv:=hid (show nrm (sg (negB x) (m:Int)) (dexp x)=fv x by unfold fv;rw [hm])
 have hcase:(0<expOf x∧fracOf x+4503599627370496=(m:Int)∧Hid (dexp x=expOf x-1075))∨(¬0<expOf x∧fracOf x=(m:Int)∧Hid (dexp x= -1074)):=by
  unfold mantOf at hm
  by_cases h:0<expOf x
  ·rw [if_pos h] at hm;exact .inl ⟨h,hm,hid (by unfold dexp;omega)⟩
  ·rw [if_neg h] at hm;exact .inr ⟨h,hm,hid (by unfold dexp;omega)⟩
 have hm1:m<9007199254740992:=by omega
 obtain ⟨hi,hhi⟩: ∃z,z=m/1000000000:=⟨_,rfl⟩
 obtain ⟨lo,hlo⟩: ∃z,z=m%1000000000:=⟨_,rfl⟩
 have ehi:(m:Int)/1000000000=(hi:Int):=by omega
 have elo:(m:Int)%1000000000=(lo:Int):=by omega
 have hsum:=hid (show (hi:Int)*1000000000+(lo:Int)=(m:Int) by omega)
 have hbh:hi<9223372036854775808:=by omega
 have hbl:lo<9223372036854775808:=by omega
 have lhi:(zl (hi:Int)).length≤64:=zl_len_bits _ _ (by rw [Int.natAbs_natCast];omega)
 have llo:(zl (lo:Int)).length≤64:=zl_len_bits _ _ (by rw [Int.natAbs_natCast];omega)
 have l9:(zl (1000000000:Int)).length≤64:=zl_len_bits _ _ (by decide)
 have lpr:(zl ((hi:Int)*1000000000)).length≤64:=zl_len_bits _ _ (by omega)
 have hma:=hid (show (m:Int).natAbs<2^53 by rw [Int.natAbs_natCast];omega)
 have hma2:=hid (show (-(m:Int)).natAbs<2^53 by rw [Int.natAbs_neg,Int.natAbs_natCast];omega)
 clear hm hhi hlo hmb
 have HM:=hid hmax
 cases hneg:negB x
 all_goals
  rw [hneg] at hfv
  rcases hcase with ⟨he,hfr,hde⟩|⟨he,hfr,hde⟩
  all_goals
   go_enter Tryz.func54,Tryz.ntmps54
   go_wp2_with (go_at_call 105;refine (fields_any x hx0 hx1 _).mono ?_;rintro e w' ⟨rfl,rfl⟩)
   have zR0:QL 33 (w.alloc (.cells #[.bool false,.slice none 0 0,.int .i64 0] 33)) w.heap.size false (.slice none 0 0) 0:=QL.made (by first|omega|(simp;done)|(simp;omega))
   have yb0:Below w.heap.size w (w.alloc (.cells #[.bool false,.slice none 0 0,.int .i64 0] 33)):=by (repeat' first|(with_reducible first|assumption|apply bR|apply bA|apply bN|apply bD|apply bL|apply bS)|refine bT ?_ (by assumption)|go_size)
   refine (zN_any hi hbh _).mono ?_
   rintro e w1 ⟨a1,c1,rfl,hN1,hb1⟩
   have zR1:=zR0.below hb1
   have yb1:=below_trans yb0 hb1
   clear zR0 yb0
   go_wp2_with fail
   refine (zN9_any _).mono ?_
   rintro e w2 ⟨a2,c2,rfl,hN2,hb2⟩
   have zR2:=zR1.below hb2
   have yb2:=below_trans yb1 hb2
   clear zR1 yb1
   go_wp2_with fail
   refine (zmul_any _ _ _ _ _ _ _ (hN1.below hb2) hN2 (by omega) (by omega)).mono ?_
   rintro e w3 ⟨a3,c3,rfl,hN3,hb3⟩
   have zR3:=zR2.below hb3
   have yb3:=below_trans yb2 hb3
   clear zR2 yb2 hb1 hb2 hN1 hN2
   go_wp2_with fail
   refine (zN_any lo hbl _).mono ?_
   rintro e w4 ⟨a4,c4,rfl,hN4,hb4⟩
   have zR4:=zR3.below hb4
   have yb4:=below_trans yb3 hb4
   clear zR3 yb3 hb3
   go_wp2_with fail
   refine (zadd_any _ _ _ _ _ _ _ (hN3.below hb4) hN4 (by omega) (by omega)).mono ?_
   rw [hsum.out]
   rintro e w5 ⟨a5,c5,rfl,hN5,hb5⟩
   have zR5:=zR4.below hb5
   have yb5:=below_trans yb4 hb5
   clear zR4 yb4 hb4 hN3 hN4 hb5
   go_wp2_with fail
   first
    |(refine (zneg_any _ _ _ _ (hN5.below (by (repeat' first|(with_reducible first|assumption|apply bR|apply bA|apply bN|apply bD|apply bL|apply bS)|refine bT ?_ (by assumption)|go_size)))).mono ?_
      rintro e w6 ⟨a6,c6,rfl,hN6,hb6⟩
      have hlt5:=zR5.lt
      have zR6:=(zR5.alloc _).below hb6
      have yb6:Below w.heap.size w w6:=below_trans (by (repeat' first|(with_reducible first|assumption|apply bR|apply bA|apply bN|apply bD|apply bL|apply bS)|refine bT ?_ (by assumption)|go_size)) hb6
      have hz:=(ZL.made (w:=w5) (t:=31) (n:=zneg (m:Int)) (v:=.slice a5 (zl (m:Int)).length c5) rfl).below hb6
      have k0:=hz.1
      have k1:=hz.2.1
      have f0:=hz.2.2.1
      have f1:=hz.2.2.2.1
      go_wp2_with fail
      refine Calls.mono (qmake_any _ _ _ _ 53 1074 _ (hN6.set2 hz.2.2.2.2 (by decide) _ _) hma2.out (by omega) ⟨by omega,by omega⟩ (by omega)) ?_
      rintro e w7 ⟨v7,rfl,⟨y,s,b0,d0,rfl,hY,hE,hyA,hs⟩,hb7⟩
      have zR:=(QL.set2far zR6 (by first|omega|(simp;done)|(simp;omega))).below hb7
      have yb:Below w.heap.size w w7:=below_trans ((yb6.setCell (by first|omega|(simp;done)|(simp;omega)) _).setCell (by first|omega|(simp;done)|(simp;omega)) _) hb7
      have HE:=hid (hE.trans (show nrm _ _=fv x by rw [←hfv.out,hde.out];rfl))
      have HYA:=hid hyA
      clear hb7 hE hyA
      obtain ⟨⟨k0,k1,f0,f1,hs2⟩,k2,f2⟩:=zR
      go_wp2_with fail
      refine bodyPost_ret (by simp [results,Tryz.results54,go_sem,k0,k1,k2];try rfl) rfl ?_
      exact ⟨_,rfl,⟨_,_,_,_,rfl,((hY.setCell hs2 (by decide) _ _).setCell (hs2.setCell _ _) (by decide) _ _).setCell ((hs2.setCell _ _).setCell _ _) (by decide) _ _,HE.out,abs_weak HYA.out (by omega),by omega⟩,((yb.setCell (by first|omega|(simp;done)|(simp;omega)) _).setCell (by first|omega|(simp;done)|(simp;omega)) _).setCell (by first|omega|(simp;done)|(simp;omega)) _⟩)
    |(refine Calls.mono (qmake_any _ _ _ _ 53 1074 _ (hN5.below (by (repeat' first|(with_reducible first|assumption|apply bR|apply bA|apply bN|apply bD|apply bL|apply bS)|refine bT ?_ (by assumption)|go_size))) hma.out (by omega) ⟨by omega,by omega⟩ (by omega)) ?_
      rintro e w7 ⟨v7,rfl,⟨y,s,b0,d0,rfl,hY,hE,hyA,hs⟩,hb7⟩
      have zR:=(zR5.alloc _).below hb7
      have yb:Below w.heap.size w w7:=below_trans (by (repeat' first|(with_reducible first|assumption|apply bR|apply bA|apply bN|apply bD|apply bL|apply bS)|refine bT ?_ (by assumption)|go_size)) hb7
      have HE:=hid (hE.trans (show nrm _ _=fv x by rw [←hfv.out,hde.out];rfl))
      have HYA:=hid hyA
      clear hb7 hE hyA
      obtain ⟨⟨k0,k1,f0,f1,hs2⟩,k2,f2⟩:=zR
      go_wp2_with fail
      refine bodyPost_ret (by simp [results,Tryz.results54,go_sem,k0,k1,k2];try rfl) rfl ?_
      exact ⟨_,rfl,⟨_,_,_,_,rfl,((hY.setCell hs2 (by decide) _ _).setCell (hs2.setCell _ _) (by decide) _ _).setCell ((hs2.setCell _ _).setCell _ _) (by decide) _ _,HE.out,abs_weak HYA.out (by omega),by omega⟩,((yb.setCell (by first|omega|(simp;done)|(simp;omega)) _).setCell (by first|omega|(simp;done)|(simp;omega)) _).setCell (by first|omega|(simp;done)|(simp;omega)) _⟩)
theorem qval_any (x:Int) (hx0:0≤x) (hx1:x<18446744073709551616) (w:World):
 Calls Tryz.prog 54 #[.int .u64 x] w fun e w'=>RetQD 3 w (fv x) 1200 1100 e w':=qval_gen 1200 (by omega) x hx0 hx1 w
end Go.Proofs.YtfphmlmgjhebjaaGreatDoor
