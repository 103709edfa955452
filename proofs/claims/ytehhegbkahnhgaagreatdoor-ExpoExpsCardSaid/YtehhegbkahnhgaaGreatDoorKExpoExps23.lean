/- ExpoExps: what the proof leans on, part 23 (Tx5 Sf0). -/
import Derived.Test.YtehhegbkahnhgaaGreatDoorKExpoExps18
import Derived.Test.YtehhegbkahnhgaaGreatDoorKExpoExps22
set_option linter.unusedVariables false
set_option linter.unusedSimpArgs false
namespace Go.Ulp
open Go.RowKit
def tenZ (n:Nat):Int:=((10^n:Nat):Int)
theorem zl_len_ten (n:Nat):(zl (tenZ n)).length≤n+1:=by
 unfold zl
 refine (digs_len_le 10000 (by omega) _ _).2 ?_
 unfold tenZ
 rw [Int.natAbs_natCast]
 exact Nat.lt_of_lt_of_le (Nat.pow_lt_pow_right (by omega) (Nat.lt_succ_self n)) (Nat.pow_le_pow_left (by omega) _)
theorem zl_len_ten4 (n:Nat):(zl (tenZ n)).length≤n/4+1:=by
 unfold zl
 refine (digs_len_le 10000 (by omega) _ _).2 ?_
 unfold tenZ
 rw [Int.natAbs_natCast,show (10000:Nat)=10^4 from rfl,←Nat.pow_mul]
 exact Nat.pow_lt_pow_right (by omega) (by omega)
theorem tenZ_add (a b:Nat):tenZ a*tenZ b=tenZ (a+b):=by unfold tenZ;rw [←Int.natCast_mul,Nat.pow_add]
def dA (D:Dy):Nat:=D.1.natAbs*2^D.2.toNat
end Go.Ulp
namespace Go.Proofs.YtehhegbkahnhgaaGreatDoor
open Go.RowKit Go.Ulp
set_option maxHeartbeats 1000000
set_option maxRecDepth 100000
theorem zten_aux (f:Nat): ∀(n:Nat) (w:World),n≤f→n≤6000000000→Calls Tryz.prog 60 #[.int .i64 (n:Int)] w fun e w'=>RetZ 3 w (tenZ n) e w':=by
 induction f with
 |zero=>
  intro n w hn _
  obtain rfl:n=0:=by omega
  have O1:=hid (show ∀w,Calls Tryz.prog 38 #[.int .i64 1] w fun e w'=>RetZ 3 w (tenZ 0) e w' from fun w=>zN_any 1 (by omega) w)
  have zR0:ZL 47 (w.alloc (.cells #[.bool false,.slice none 0 0] 47)) w.heap.size false (.slice none 0 0):=ZL.made rfl
  have yb:Below w.heap.size w (w.alloc (.cells #[.bool false,.slice none 0 0] 47)):=below_alloc _ _
  go_enter Tryz.func60,Tryz.ntmps60
  go_wp2_with fail
  go_loopw [3,7] (fun s3 s7 wr=>s3=.int .i64 1∧s7=.int .i64 0∧wr=w.alloc (.cells #[.bool false,.slice none 0 0] 47)) (fun _ _ _=>0)
  case atStart=>exact ⟨rfl,rfl,rfl⟩
  case round=>
   obtain ⟨rfl,rfl,rfl⟩:=hrel
   go_wp2_with fail
   refine (O1.out _).mono ?_
   rintro e w1 ⟨ao,cap,rfl,hN,hb⟩
   have zR:=zR0.below hb
   have k0:=zR.1
   have k1:=zR.2.1
   have f0:=zR.2.2.1
   have f1:=zR.2.2.2.1
   have hs2:=zR.2.2.2.2
   go_wp2_with fail
   refine bodyPost_ret (by simp [results,Tryz.results60,go_sem,k0,k1];try rfl) rfl ?_
   exact ⟨_,_,rfl,(hN.setCell hs2 (by decide) _ _).setCell (hs2.setCell _ _) (by decide) _ _,((below_trans yb hb).setCell (by first|omega|(simp;done)|(simp;omega)) _).setCell (by first|omega|(simp;done)|(simp;omega)) _⟩
 |succ f ih=>
  intro n w hn hs
  by_cases h0:n=0
  ·subst h0;exact ih 0 w (by omega) (by omega)
  have IH:=hid ih
  clear ih
  have zR0:ZL 47 (w.alloc (.cells #[.bool false,.slice none 0 0] 47)) w.heap.size false (.slice none 0 0):=ZL.made rfl
  have yb:Below w.heap.size w (w.alloc (.cells #[.bool false,.slice none 0 0] 47)):=below_alloc _ _
  by_cases h8:n<8
  ·have ON:=hid (show ∀(P:Nat) w,P=10^n→Calls Tryz.prog 38 #[.int .i64 (P:Int)] w fun e w'=>RetZ 3 w (tenZ n) e w' from fun P w h=>by
    have h9:(10:Nat)^n≤10^8:=Nat.pow_le_pow_right (by omega) (by omega)
    have h7:(10:Nat)^8=100000000:=by decide
    subst h
    exact zN_any (10^n) (by omega) w)
   go_enter Tryz.func60,Tryz.ntmps60
   go_wp2_with fail
   go_loopw [3,7] (fun s3 s7 wr=> ∃i P:Nat,s3=.int .i64 (P:Int)∧s7=.int .i64 (i:Int)∧i≤n∧P=10^i∧wr=w.alloc (.cells #[.bool false,.slice none 0 0] 47)) (fun _ s7 _=>n-(intOf s7).toNat)
   case atStart=>exact ⟨0,1,rfl,rfl,by omega,rfl,rfl⟩
   case round=>
    obtain ⟨i,P,rfl,rfl,hi,hP,rfl⟩:=hrel
    by_cases hin:i<n
    ·have hPb:P≤100000000:=by
      have h9:(10:Nat)^i≤10^8:=Nat.pow_le_pow_right (by omega) (by omega)
      have h7:(10:Nat)^8=100000000:=by decide
      omega
     have HP:=hid (show P*10=10^(i+1) by rw [Nat.pow_succ,hP])
     clear hP
     go_wp2_with fail
     go_roundw
     case rel=>exact ⟨i+1,P*10,by go_num,by go_num,by omega,HP.out,by first|rfl|trivial⟩
     case measure=>simp [intOf];omega
    ·have hi2:i=n:=by omega
     subst hi2
     have ONP:=hid (fun w=>ON.out P w hP)
     clear hP ON
     go_wp2_with fail
     refine (ONP.out _).mono ?_
     rintro e w1 ⟨ao,cap,rfl,hN,hb⟩
     have zR:=zR0.below hb
     have k0:=zR.1
     have k1:=zR.2.1
     have f0:=zR.2.2.1
     have f1:=zR.2.2.2.1
     have hs2:=zR.2.2.2.2
     go_wp2_with fail
     refine bodyPost_ret (by simp [results,Tryz.results60,go_sem,k0,k1];try rfl) rfl ?_
     exact ⟨_,_,rfl,(hN.setCell hs2 (by decide) _ _).setCell (hs2.setCell _ _) (by decide) _ _,((below_trans yb hb).setCell (by first|omega|(simp;done)|(simp;omega)) _).setCell (by first|omega|(simp;done)|(simp;omega)) _⟩
  ·have h1: ¬(n:Int)<8:=by omega
   obtain ⟨q,hq⟩: ∃q,q=n/2:=⟨_,rfl⟩
   obtain ⟨r,hr⟩: ∃r,r=n-q:=⟨_,rfl⟩
   have e1:(n:Int)/2=(q:Int):=by omega
   have e2:(n:Int)-(q:Int)=(r:Int):=by omega
   have hq1:q≤f:=by omega
   have hr1:r≤f:=by omega
   have hq2:q≤6000000000:=by omega
   have hr2:r≤6000000000:=by omega
   have HS:=hid (show tenZ q*tenZ r=tenZ n by rw [tenZ_add];congr 1;omega)
   clear hq hr
   go_enter Tryz.func60,Tryz.ntmps60
   go_wp2_with fail
   refine (IH.out q _ hq1 hq2).mono ?_
   rintro e w1 ⟨ao,cap,rfl,hN,hb⟩
   go_wp2_with fail
   refine (IH.out r _ hr1 hr2).mono ?_
   rintro e w2 ⟨ao2,cap2,rfl,hN2,hb2⟩
   go_wp2_with fail
   refine (zmul_any _ _ _ _ _ _ _ (hN.below hb2) hN2 (Nat.le_trans (zl_len_ten4 q) (by omega)) (Nat.le_trans (zl_len_ten4 r) (by omega))).mono ?_
   rw [HS.out]
   rintro e w3 ⟨ao3,cap3,rfl,hN3,hb3⟩
   have zR:=((zR0.below hb).below hb2).below hb3
   have yb:=below_trans (below_trans yb hb) hb2
   have k0:=zR.1
   have k1:=zR.2.1
   have f0:=zR.2.2.1
   have f1:=zR.2.2.2.1
   have hs2:=zR.2.2.2.2
   go_wp2_with fail
   refine bodyPost_ret (by simp [results,Tryz.results60,go_sem,k0,k1];try rfl) rfl ?_
   exact ⟨_,_,rfl,(hN3.setCell hs2 (by decide) _ _).setCell (hs2.setCell _ _) (by decide) _ _,((below_trans yb hb3).setCell (by first|omega|(simp;done)|(simp;omega)) _).setCell (by first|omega|(simp;done)|(simp;omega)) _⟩
theorem zTenD (n:Nat) (w:World) (hn:n≤6000000000):Calls Tryz.prog 60 #[.int .i64 (n:Int)] w (RetZD 3 w (tenZ n)):=(zten_aux n n w (Nat.le_refl _) hn).mono fun _ _ h=>h.zd
end Go.Proofs.YtehhegbkahnhgaaGreatDoor
namespace Go.Ulp
open Go.RowKit
def PZ (ti:TypeId) (w:World) (x:PP) (v:Value):Prop:= ∃a c b d,v=.agg #[.bool false,.slice a (zl (x.1:Int)).length c,.bool false,.slice b (zl (x.2:Int)).length d]∧Nz ti w a c (zl (x.1:Int))∧Nz ti w b d (zl (x.2:Int))
theorem PZ.below {ti:TypeId} {w w':World} {x:PP} {v:Value} (h:PZ ti w x v) (hb:Below w.heap.size w w'):PZ ti w' x v:=by
 obtain ⟨a,c,b,d,e,h1,h2⟩:=h;exact ⟨a,c,b,d,e,h1.below hb,h2.below hb⟩
def RetPZ (ti:TypeId) (w:World) (x:PP) (e:Ending) (w':World):Prop:= ∃v,e=.returned v∧PZ ti w' x v∧Below w.heap.size w w'
def BC (tb:TypeId) (w:World) (g:Nat) (n0:Bool) (s0:Value) (n1:Bool) (s1:Value):Prop:=
 (w.cell? ⟨g,0,none⟩=some (.bool n0)∧w.cell? ⟨g,1,none⟩=some s0∧w.cell? ⟨g,2,none⟩=some (.bool n1)∧w.cell? ⟨g,3,none⟩=some s1)∧
  w.frozen? ⟨g,0,none⟩=false∧w.frozen? ⟨g,1,none⟩=false∧w.frozen? ⟨g,2,none⟩=false∧w.frozen? ⟨g,3,none⟩=false∧ElemIs w g tb
theorem BC.lt {tb:TypeId} {w:World} {g:Nat} {n0 n1:Bool} {s0 s1:Value} (h:BC tb w g n0 s0 n1 s1):g<w.heap.size:=World.block_lt_of_cell? w _ h.1.1
theorem BC.below {tb:TypeId} {w w':World} {g:Nat} {n0 n1:Bool} {s0 s1:Value} (h:BC tb w g n0 s0 n1 s1) (hb:Below w.heap.size w w'):BC tb w' g n0 s0 n1 s1:=by
 have hl:=h.lt
 obtain ⟨⟨h0,h1,h2,h3⟩,f0,f1,f2,f3,s⟩:=h
 exact ⟨⟨(hb.cell (p:=⟨g,0,none⟩) hl).trans h0,(hb.cell (p:=⟨g,1,none⟩) hl).trans h1,(hb.cell (p:=⟨g,2,none⟩) hl).trans h2,(hb.cell (p:=⟨g,3,none⟩) hl).trans h3⟩,
  (hb.frozen (p:=⟨g,0,none⟩) hl).trans f0,(hb.frozen (p:=⟨g,1,none⟩) hl).trans f1,(hb.frozen (p:=⟨g,2,none⟩) hl).trans f2,(hb.frozen (p:=⟨g,3,none⟩) hl).trans f3,s.below hb⟩
theorem BC.made {tb:TypeId} {w:World} {g:Nat} {n0 n1:Bool} {s0 s1:Value} (hg:g=w.heap.size):BC tb (w.alloc (.cells #[.bool n0,s0,.bool n1,s1] tb)) g n0 s0 n1 s1:=by
 subst hg
 refine ⟨⟨?_,?_,?_,?_⟩,?_,?_,?_,?_,ElemIs.made _ _ _⟩
 ·rw [World.cell?_alloc_at (hn:=rfl)];rfl
 ·rw [World.cell?_alloc_at (hn:=rfl)];rfl
 ·rw [World.cell?_alloc_at (hn:=rfl)];rfl
 ·rw [World.cell?_alloc_at (hn:=rfl)];rfl
 ·unfold World.frozen?;rw [heap_alloc_new];simp
 ·unfold World.frozen?;rw [heap_alloc_new];simp
 ·unfold World.frozen?;rw [heap_alloc_new];simp
 ·unfold World.frozen?;rw [heap_alloc_new];simp
def pu4 (w:World) (g:Nat) (u0 u1 u2 u3:Value):World:=(((w.setCell ⟨g,0,none⟩ u0).setCell ⟨g,1,none⟩ u1).setCell ⟨g,2,none⟩ u2).setCell ⟨g,3,none⟩ u3
theorem cell_pu4_far {w:World} {g k o:Nat} {u0 u1 u2 u3:Value} (h:k≠g):(pu4 w g u0 u1 u2 u3).cell? ⟨k,o,none⟩=w.cell? ⟨k,o,none⟩:=by
 unfold pu4
 rw [World.cell?_setCell_other (h:=fun e=>h (by injection e with e;exact e.symm)),World.cell?_setCell_other (h:=fun e=>h (by injection e with e;exact e.symm)),World.cell?_setCell_other (h:=fun e=>h (by injection e with e;exact e.symm)),World.cell?_setCell_other (h:=fun e=>h (by injection e with e;exact e.symm))]
theorem frozen_pu4 {w:World} {g:Nat} {a:Addr} {u0 u1 u2 u3:Value}:(pu4 w g u0 u1 u2 u3).frozen? a=w.frozen? a:=by
 unfold pu4
 rw [frozen_setCell,frozen_setCell,frozen_setCell,frozen_setCell]
theorem pu4_elem {w:World} {g k:Nat} {t:TypeId} (h:ElemIs w k t) (u0 u1 u2 u3:Value):ElemIs (pu4 w g u0 u1 u2 u3) k t:=(((h.setCell _ _).setCell _ _).setCell _ _).setCell _ _
theorem BC.far {tb:TypeId} {w:World} {g k:Nat} {n0 n1:Bool} {s0 s1:Value} (h:BC tb w k n0 s0 n1 s1) (hk:k≠g) (u0 u1 u2 u3:Value):BC tb (pu4 w g u0 u1 u2 u3) k n0 s0 n1 s1:=by
 obtain ⟨⟨h0,h1,h2,h3⟩,f0,f1,f2,f3,s⟩:=h
 refine ⟨⟨?_,?_,?_,?_⟩,?_,?_,?_,?_,pu4_elem s _ _ _ _⟩
 ·rw [cell_pu4_far hk];exact h0
 ·rw [cell_pu4_far hk];exact h1
 ·rw [cell_pu4_far hk];exact h2
 ·rw [cell_pu4_far hk];exact h3
 ·rw [frozen_pu4];exact f0
 ·rw [frozen_pu4];exact f1
 ·rw [frozen_pu4];exact f2
 ·rw [frozen_pu4];exact f3
theorem BC.put {tb:TypeId} {w:World} {g:Nat} {n0 n1:Bool} {s0 s1:Value} (h:BC tb w g n0 s0 n1 s1) (m0 m1:Bool) (u0 u1:Value):BC tb (pu4 w g (.bool m0) u0 (.bool m1) u1) g m0 u0 m1 u1:=by
 obtain ⟨⟨h0,h1,h2,h3⟩,f0,f1,f2,f3,s⟩:=h
 have ne: ∀i j:Nat,i≠j→(⟨g,i,none⟩:Addr)≠⟨g,j,none⟩:=fun i j hij e=>hij (by injection e)
 refine ⟨⟨?_,?_,?_,?_⟩,?_,?_,?_,?_,pu4_elem s _ _ _ _⟩
 ·unfold pu4
  rw [World.cell?_setCell_other (h:=ne _ _ (by decide)),World.cell?_setCell_other (h:=ne _ _ (by decide)),World.cell?_setCell_other (h:=ne _ _ (by decide))]
  exact World.cell?_setCell_same (w:=w) _ _ h0
 ·unfold pu4
  rw [World.cell?_setCell_other (h:=ne _ _ (by decide)),World.cell?_setCell_other (h:=ne _ _ (by decide))]
  refine World.cell?_setCell_same _ _ _ (u:=s0) ?_
  rw [World.cell?_setCell_other (h:=ne _ _ (by decide))];exact h1
 ·unfold pu4
  rw [World.cell?_setCell_other (h:=ne _ _ (by decide))]
  refine World.cell?_setCell_same _ _ _ (u:=.bool n1) ?_
  rw [World.cell?_setCell_other (h:=ne _ _ (by decide)),World.cell?_setCell_other (h:=ne _ _ (by decide))];exact h2
 ·unfold pu4
  refine World.cell?_setCell_same _ _ _ (u:=s1) ?_
  rw [World.cell?_setCell_other (h:=ne _ _ (by decide)),World.cell?_setCell_other (h:=ne _ _ (by decide)),World.cell?_setCell_other (h:=ne _ _ (by decide))];exact h3
 ·rw [frozen_pu4];exact f0
 ·rw [frozen_pu4];exact f1
 ·rw [frozen_pu4];exact f2
 ·rw [frozen_pu4];exact f3
theorem Nz.pu4 {ti tb:TypeId} {w:World} {a:Option Addr} {c:Nat} {L:List Nat} (h:Nz ti w a c L) {g:Nat} (s:ElemIs w g tb) (hne:tb≠ti) (u0 u1 u2 u3:Value):Nz ti (Go.Ulp.pu4 w g u0 u1 u2 u3) a c L:=
 (((h.setCell s hne _ _).setCell (s.setCell _ _) hne _ _).setCell ((s.setCell _ _).setCell _ _) hne _ _).setCell (((s.setCell _ _).setCell _ _).setCell _ _) hne _ _
theorem below_pu4 {B:Nat} {w w':World} (h:Below B w w') {g:Nat} (hg:B≤g) (u0 u1 u2 u3:Value):Below B w (Go.Ulp.pu4 w' g u0 u1 u2 u3):=
 (((h.setCell (p:=⟨g,0,none⟩) hg _).setCell (p:=⟨g,1,none⟩) hg _).setCell (p:=⟨g,2,none⟩) hg _).setCell (p:=⟨g,3,none⟩) hg _
def BV (tb ti:TypeId) (w:World) (g:Nat) (x:PP):Prop:= ∃a c b d,BC tb w g false (.slice a (zl (x.1:Int)).length c) false (.slice b (zl (x.2:Int)).length d)∧Nz ti w a c (zl (x.1:Int))∧Nz ti w b d (zl (x.2:Int))
theorem BV.lt {tb ti:TypeId} {w:World} {g:Nat} {x:PP} (h:BV tb ti w g x):g<w.heap.size:=by obtain ⟨a,c,b,d,h1,-⟩:=h;exact h1.lt
theorem BV.below {tb ti:TypeId} {w w':World} {g:Nat} {x:PP} (h:BV tb ti w g x) (hb:Below w.heap.size w w'):BV tb ti w' g x:=by
 obtain ⟨a,c,b,d,h1,h2,h3⟩:=h;exact ⟨a,c,b,d,h1.below hb,h2.below hb,h3.below hb⟩
theorem BV.made {tb ti:TypeId} {w:World} {g:Nat} {x:PP} {a b:Option Addr} {c d:Nat} (hg:g=w.heap.size) (h1:Nz ti w a c (zl (x.1:Int))) (h2:Nz ti w b d (zl (x.2:Int))):
 BV tb ti (w.alloc (.cells #[.bool false,.slice a (zl (x.1:Int)).length c,.bool false,.slice b (zl (x.2:Int)).length d] tb)) g x:=
 ⟨a,c,b,d,BC.made hg,h1.below (below_alloc _ _),h2.below (below_alloc _ _)⟩
theorem BV.far {tb ti:TypeId} {w:World} {g k:Nat} {x:PP} (h:BV tb ti w k x) (hk:k≠g) (s:ElemIs w g tb) (hne:tb≠ti) (u0 u1 u2 u3:Value):BV tb ti (pu4 w g u0 u1 u2 u3) k x:=by
 obtain ⟨a,c,b,d,h1,h2,h3⟩:=h
 exact ⟨a,c,b,d,h1.far hk _ _ _ _,h2.pu4 s hne _ _ _ _,h3.pu4 s hne _ _ _ _⟩
theorem BC.put_bv {tb ti:TypeId} {w:World} {g:Nat} {n0 n1:Bool} {s0 s1:Value} {x:PP} {a b:Option Addr} {c d:Nat} (h:BC tb w g n0 s0 n1 s1) (hne:tb≠ti) (h1:Nz ti w a c (zl (x.1:Int))) (h2:Nz ti w b d (zl (x.2:Int))):
 BV tb ti (pu4 w g (.bool false) (.slice a (zl (x.1:Int)).length c) (.bool false) (.slice b (zl (x.2:Int)).length d)) g x:=
 ⟨a,c,b,d,h.put _ _ _ _,h1.pu4 h.2.2.2.2.2 hne _ _ _ _,h2.pu4 h.2.2.2.2.2 hne _ _ _ _⟩
theorem zl_le10 {x E:Nat} (h:x≤10^E):(zl (x:Int)).length≤E/4+1:=
 Nat.le_trans (zl_len_le (x:=((x:Nat):Int)) (y:=tenZ E) (by unfold tenZ;rw [Int.natAbs_natCast,Int.natAbs_natCast];exact h)) (zl_len_ten4 E)
theorem mul10 {x y E F:Nat} (h:x≤10^E) (k:y≤10^F):x*y≤10^(E+F):=by rw [Nat.pow_add];exact Nat.mul_le_mul h k
def Fact.pz (ti:TypeId) (x:PP):Fact:=⟨fun v w=>PZ ti w x v,fun _ _ _ h hb=>h.below hb⟩
theorem ZD.ofN {ti:TypeId} {w:World} {x:Nat} {a:Option Addr} {c:Nat} (h:Nz ti w a c (zl (x:Int))):ZD ti w (x:Int) (.agg #[.bool false,.slice a (zl (x:Int)).length c]):=⟨a,c,by rw [zneg_nat],h⟩
theorem ZD.toN {ti:TypeId} {w:World} {x:Nat} {v:Value} (h:ZD ti w (x:Int) v): ∃a c,v=.agg #[.bool false,.slice a (zl (x:Int)).length c]∧Nz ti w a c (zl (x:Int)):=by
 obtain ⟨a,c,rfl,h1⟩:=h;exact ⟨a,c,by rw [zneg_nat],h1⟩
theorem QL.zvN {tq ti:TypeId} {w:World} {g x:Nat} {a:Option Addr} {c:Nat} {k:Int} (h:QL tq w g false (.slice a (zl (x:Int)).length c) k) (n:Nz ti w a c (zl (x:Int))):ZV tq ti w g (x:Int):=⟨a,c,by rw [zneg_nat];exact h.1,n⟩
theorem cast_div (a b c d:Nat) (e:a*b=c):((a:Int)*((b:Nat):Int))/((d:Nat):Int)=((c/d:Nat):Int):=by rw [←e,←Int.natCast_mul,Int.natCast_ediv]
theorem cast_mod (a b c d:Nat) (e:a*b=c):((a:Int)*((b:Nat):Int))%((d:Nat):Int)=((c%d:Nat):Int):=by rw [←e,←Int.natCast_mul,Int.natCast_emod]
theorem PZ.mk {ti:TypeId} {w:World} {x:PP} {a b:Option Addr} {c d:Nat} (h1:Nz ti w a c (zl (x.1:Int))) (h2:Nz ti w b d (zl (x.2:Int))):PZ ti w x (.agg #[.bool false,.slice a (zl (x.1:Int)).length c,.bool false,.slice b (zl (x.2:Int)).length d]):=⟨a,c,b,d,rfl,h1,h2⟩
end Go.Ulp
namespace Go.Proofs.YtehhegbkahnhgaaGreatDoor
open Go.RowKit Go.Ulp
set_option maxHeartbeats 2000000
set_option maxRecDepth 100000
theorem zmulN (v u:Value) (x y:Nat) (w:World) (hv:ZD 3 w (x:Int) v) (hu:ZD 3 w (y:Int) u) (hx:(zl (x:Int)).length≤1000000000) (hy:(zl (y:Int)).length≤1000000000):Calls Tryz.prog 77 #[v,u] w (RetZD 3 w ((x*y:Nat):Int)):=by
 have h:=zmulD v u x y w hv hu hx hy
 rw [←Int.natCast_mul] at h;exact h
theorem zaddN (v u:Value) (x y:Nat) (w:World) (hv:ZD 3 w (x:Int) v) (hu:ZD 3 w (y:Int) u) (hx:(zl (x:Int)).length≤4000000000) (hy:(zl (y:Int)).length≤4000000000):Calls Tryz.prog 76 #[v,u] w (RetZD 3 w ((x+y:Nat):Int)):=by
 have h:=zaddD v u x y w hv hu hx hy
 rw [←Int.natCast_add] at h;exact h
theorem zdivN (v u:Value) (x y:Nat) (w:World) (hv:ZD 3 w (x:Int) v) (hu:ZD 3 w (y:Int) u) (hx:(zl (x:Int)).length≤4000000000) (hy:(zl (y:Int)).length≤1000000000) (h0:0<y):Calls Tryz.prog 97 #[v,u] w (RetZD2 3 w ((x/y:Nat):Int) ((x%y:Nat):Int)):=by
 have h:=zdivD v u x y w hv hu hx hy (by omega)
 rw [←Int.natCast_ediv,←Int.natCast_emod] at h;exact h
theorem zTenN (n:Nat) (w:World) (hn:n≤6000000000):Calls Tryz.prog 60 #[.int .i64 (n:Int)] w (RetZD 3 w ((10^n:Nat):Int)):=zTenD n w hn
theorem up1_any (v:Value) (x:Nat) (w:World) (hv:ZD 3 w (x:Int) v) (hl:(zl (x:Int)).length≤4000000000):Calls Tryz.prog 102 #[v] w (RetZD 3 w ((x+1:Nat):Int)):=by
 obtain ⟨a,c,rfl,h⟩:=hv
 have zA:ZV 47 3 ((w.alloc (.cells #[.bool (zneg (x:Int)),.slice a (zl (x:Int)).length c] 47)).alloc (.cells #[.bool false,.slice none 0 0] 47)) w.heap.size (x:Int):=(zv_made h _ rfl).below (below_alloc _ _)
 have zR:ZL 47 ((w.alloc (.cells #[.bool (zneg (x:Int)),.slice a (zl (x:Int)).length c] 47)).alloc (.cells #[.bool false,.slice none 0 0] 47)) (w.heap.size+1) false (.slice none 0 0):=ZL.made (by simp)
 have yb0:Below w.heap.size w ((w.alloc (.cells #[.bool (zneg (x:Int)),.slice a (zl (x:Int)).length c] 47)).alloc (.cells #[.bool false,.slice none 0 0] 47)):=by (repeat' first|(with_reducible first|assumption|apply bR|apply bA|apply bN|apply bD|apply bL|apply bS)|refine bT ?_ (by assumption)|go_size)
 have l1:(zl 1).length≤4000000000:=by decide
 have HX:=hid (show (x:Int)+1=((x+1:Nat):Int) from by omega)
 clear h
 go_enter Tryz.func102,Tryz.ntmps102
 go_upto_region 1 with fail
 refine wp_region_grow 3 [3,4,5] [Fact.z 3 ((x:Int)),Fact.z 3 (1),Fact.z 3 (((x+1:Nat):Int))] (by kernel_rfl) (by kernel_rfl) ⟨?o0,?o1,?o2,trivial⟩ ?after
 case o0=>(refine oQ rfl ?_;intro ρ w1 R hcon hfn hρ hb hp hR;have e1:ρ (.tmp 1)=.pointer (some ⟨w.heap.size,0,none⟩):=hρ.tmp 1 rfl;obtain ⟨ya9,yc9,yj9,yn9⟩:=ZV.below zA hb;obtain ⟨j90,j91,-⟩:=yj9;clear hρ hp;unfold OpRun;go_simp;exact hR _ _ (Below.refl _ _) ⟨ya9,yc9,rfl,yn9⟩)
 case o1=>(refine oQ rfl ?_;intro ρ w1 R hcon hfn hρ hb hp hR;clear hρ hp;unfold OpRun;go_simp;(refine (zND _ (by omega) (by omega) _).mono ?_;rintro e wn ⟨v9,rfl,hz9,hbn⟩;exact ⟨_,rfl,hR _ _ hbn hz9⟩))
 case o2=>(refine oQ rfl ?_;intro ρ w1 R hcon hfn hρ hb hp hR;have f3:=hp 0 3 rfl rfl;have f4:=hp 1 4 rfl rfl;clear hρ hp;unfold OpRun;go_simp;(refine (zaddD _ _ _ _ _ f3 f4 (by first|assumption|omega) (by first|assumption|omega)).mono ?_;rintro e wn ⟨v9,rfl,hz9,hbn⟩;exact ⟨_,rfl,hR _ _ hbn (ZD.cast hz9 HX.out)⟩))
 case after=>
  intro u wn hb hf
  have f5:=hf 2 5 (by omega) rfl
  clear hf
  simp only [putAll,Act.put,List.setIfInBounds_toArray,List.set_cons_zero,List.set_cons_succ,List.drop_succ_cons,List.drop_zero,List.drop_nil]
  obtain ⟨a5,c5,e5,hN⟩:=f5
  rw [e5]
  clear e5
  have zR2:=zR.below hb
  obtain ⟨k0,k1,f0,f1,hs2⟩:=id zR2
  go_wp2_with fail
  refine bodyPost_ret (by simp [results,Tryz.results102,go_sem,k0,k1];try rfl) rfl ?_
  exact ⟨_,rfl,⟨a5,c5,rfl,hN.st2 hs2 (by decide) _ _⟩,((below_trans yb0 hb).setCell (by first|omega|(simp;done)|(simp;omega)) _).setCell (by first|omega|(simp;done)|(simp;omega)) _⟩
theorem bothMul_any (x y:PP) (t E:Nat) (v u:Value) (w:World) (hv:PZ 3 w x v) (hu:PZ 3 w y u) (hE:E≤3900000000) (ht:t≤3900000000) (x1:x.1≤10^E) (x2:x.2≤10^E) (y1:y.1≤10^E) (y2:y.2≤10^E):
 Calls Tryz.prog 98 #[v,u,.int .i64 (t:Int)] w (RetPZ 3 w (bMul x y (10^t))):=by
 obtain ⟨xl,xh⟩:=x
 obtain ⟨yl,yh⟩:=y
 simp only at x1 x2 y1 y2
 obtain ⟨a0,c0,a1,c1,rfl,n0,n1⟩:=hv
 obtain ⟨a2,c2,a3,c3,rfl,n2,n3⟩:=hu
 simp only at n0 n1 n2 n3
 have hD:=Nat.pow_pos (n:=t) (show 0<10 by omega)
 have lD:=zl_le10 (x:=10^t) (E:=t) (Nat.le_refl _)
 have M1:=hid (fun v u w h k=>zmulN v u xl yl w h k (by have:=zl_le10 x1;omega) (by have:=zl_le10 y1;omega))
 have M2:=hid (fun v u w h k=>zmulN v u xh yh w h k (by have:=zl_le10 x2;omega) (by have:=zl_le10 y2;omega))
 have TN:=hid (fun w=>zTenN t w (by omega))
 have b1:=mul10 x1 y1
 have b2:=mul10 x2 y2
 have D1:=hid (fun v u w h k=>zdivN v u (xl*yl) (10^t) w h k (by have:=zl_le10 b1;omega) (by omega) hD)
 have D2:=hid (fun v u w h k=>zdivN v u (xh*yh) (10^t) w h k (by have:=zl_le10 b2;omega) (by omega) hD)
 have U1:=hid (fun v w h=>up1_any v (xh*yh/10^t) w h (by have:=zl_le10 (Nat.le_trans (Nat.div_le_self (xh*yh) (10^t)) b2);omega))
 have HE:=hid (show bMul (xl,xh) (yl,yh) (10^t)=(xl*yl/10^t,xh*yh/10^t+1) from rfl)
 rw [HE.out]
 clear HE
 generalize 10^t=D at *
 generalize xl*yl=P1 at *
 generalize xh*yh=P2 at *
 generalize P1%D=R1 at *
 generalize P2%D=R2 at *
 generalize P1/D=Q1 at *
 generalize P2/D=Q2 at *
 clear x1 x2 y1 y2 b1 b2 lD hD
 have zA:BC 63 (((w.alloc (.cells #[.bool false,.slice a0 (zl (xl:Int)).length c0,.bool false,.slice a1 (zl (xh:Int)).length c1] 63)).alloc (.cells #[.bool false,.slice a2 (zl (yl:Int)).length c2,.bool false,.slice a3 (zl (yh:Int)).length c3] 63)).alloc (.cells #[.bool false,.slice none 0 0,.bool false,.slice none 0 0] 63)) w.heap.size false (.slice a0 (zl (xl:Int)).length c0) false (.slice a1 (zl (xh:Int)).length c1):=((BC.made rfl).below (below_alloc _ _)).below (below_alloc _ _)
 have zB:BC 63 (((w.alloc (.cells #[.bool false,.slice a0 (zl (xl:Int)).length c0,.bool false,.slice a1 (zl (xh:Int)).length c1] 63)).alloc (.cells #[.bool false,.slice a2 (zl (yl:Int)).length c2,.bool false,.slice a3 (zl (yh:Int)).length c3] 63)).alloc (.cells #[.bool false,.slice none 0 0,.bool false,.slice none 0 0] 63)) (w.heap.size+1) false (.slice a2 (zl (yl:Int)).length c2) false (.slice a3 (zl (yh:Int)).length c3):=(BC.made (by simp)).below (below_alloc _ _)
 have zR:BC 63 (((w.alloc (.cells #[.bool false,.slice a0 (zl (xl:Int)).length c0,.bool false,.slice a1 (zl (xh:Int)).length c1] 63)).alloc (.cells #[.bool false,.slice a2 (zl (yl:Int)).length c2,.bool false,.slice a3 (zl (yh:Int)).length c3] 63)).alloc (.cells #[.bool false,.slice none 0 0,.bool false,.slice none 0 0] 63)) (w.heap.size+2) false (.slice none 0 0) false (.slice none 0 0):=BC.made (by simp)
 have yb0:Below w.heap.size w (((w.alloc (.cells #[.bool false,.slice a0 (zl (xl:Int)).length c0,.bool false,.slice a1 (zl (xh:Int)).length c1] 63)).alloc (.cells #[.bool false,.slice a2 (zl (yl:Int)).length c2,.bool false,.slice a3 (zl (yh:Int)).length c3] 63)).alloc (.cells #[.bool false,.slice none 0 0,.bool false,.slice none 0 0] 63)):=by (repeat' first|(with_reducible first|assumption|apply bR|apply bA|apply bN|apply bD|apply bL|apply bS)|refine bT ?_ (by assumption)|go_size)
 have H0:=hid n0
 have H1:=hid n1
 have H2:=hid n2
 have H3:=hid n3
 clear n0 n1 n2 n3
 go_enter Tryz.func98,Tryz.ntmps98
 go_upto_region 1 with fail
 obtain ⟨⟨i0,i1,i2,i3⟩,-⟩:=id zA
 obtain ⟨⟨j0,j1,j2,j3⟩,-⟩:=id zB
 go_upto_region 2 with (first
  |(go_at_call 77;(with_reducible refine (M1.out _ _ _ (ZD.ofN (H0.out.below yb0)) (ZD.ofN (H2.out.below yb0))).mono ?_);rintro en w1 ⟨v1,rfl,hv1,hb1⟩)
  |(go_at_call 60;(with_reducible refine (TN.out _).mono ?_);rintro en w2 ⟨v2,rfl,hv2,hb2⟩)
  |(go_at_call 97;(with_reducible refine (D1.out _ _ _ (hv1.below hb2) hv2).mono ?_);rintro en w3 ⟨v3,rfl,⟨a4,c4,a5,c5,rfl,n4,n5⟩,hb3⟩))
 obtain ⟨yb4,z7,z8⟩:=zv_made2 (tz:=47) n4 n5
 have yb3:=below_trans (below_trans (below_trans (below_trans yb0 hb1) hb2) hb3) yb4
 have zB3:=((((zB.below hb1).below hb2).below hb3).below yb4)
 have zA3:=((((zA.below hb1).below hb2).below hb3).below yb4)
 have zR3:=((((zR.below hb1).below hb2).below hb3).below yb4)
 obtain ⟨g7,hg7⟩: ∃g,g=w3.heap.size:=⟨_,rfl⟩
 rw [←hg7] at z7 z8 ⊢
 refine wp_worldZ (fun WW=>Below w.heap.size w WW∧ZV 47 3 WW g7 (Q1:Int)∧BC 63 WW w.heap.size false (.slice a0 (zl (xl:Int)).length c0) false (.slice a1 (zl (xh:Int)).length c1)∧BC 63 WW (w.heap.size+1) false (.slice a2 (zl (yl:Int)).length c2) false (.slice a3 (zl (yh:Int)).length c3)∧BC 63 WW (w.heap.size+2) false (.slice none 0 0) false (.slice none 0 0)) ⟨yb3,z7,zA3,zB3,zR3⟩ ?_
 clear hb1 hb2 hb3 yb4 z7 z8 yb3 zA3 zB3 zR3 n4 n5 i0 i1 i2 i3 j0 j1 j2 j3 zA zB zR hg7 hv1 hv2 yb0 M1 D1
 intro W3 ⟨yb3,z7,zA,zB,zR⟩
 obtain ⟨⟨i0,i1,i2,i3⟩,-⟩:=id zA
 obtain ⟨⟨j0,j1,j2,j3⟩,-⟩:=id zB
 go_upto_region 3 with (first
  |(go_at_call 77;(with_reducible refine (M2.out _ _ _ (ZD.ofN (H1.out.below yb3)) (ZD.ofN (H3.out.below yb3))).mono ?_);rintro en w1 ⟨v1,rfl,hv1,hb1⟩)
  |(go_at_call 60;(with_reducible refine (TN.out _).mono ?_);rintro en w2 ⟨v2,rfl,hv2,hb2⟩)
  |(go_at_call 97;(with_reducible refine (D2.out _ _ _ (hv1.below hb2) hv2).mono ?_);rintro en w3 ⟨v3,rfl,⟨a4,c4,a5,c5,rfl,n4,n5⟩,hb3⟩))
 obtain ⟨yb4,z9,z10⟩:=zv_made2 (tz:=47) n4 n5
 have yb5:=below_trans (below_trans (below_trans (below_trans yb3 hb1) hb2) hb3) yb4
 have z73:=((((z7.below hb1).below hb2).below hb3).below yb4)
 have zR3:=((((zR.below hb1).below hb2).below hb3).below yb4)
 obtain ⟨g9,hg9⟩: ∃g,g=w3.heap.size:=⟨_,rfl⟩
 rw [←hg9] at z9 z10 ⊢
 refine wp_worldZ (fun WW=>Below w.heap.size w WW∧ZV 47 3 WW g7 (Q1:Int)∧ZV 47 3 WW g9 (Q2:Int)∧BC 63 WW (w.heap.size+2) false (.slice none 0 0) false (.slice none 0 0)) ⟨yb5,z73,z9,zR3⟩ ?_
 clear hb1 hb2 hb3 yb4 z73 z9 z10 yb5 zR3 n4 n5 i0 i1 i2 i3 j0 j1 j2 j3 zA zB zR hg9 hv1 hv2 yb3 z7 M2 D2 TN
 intro W4 ⟨yb4,z7,z9,zR⟩
 refine wp_region_grow 4 [33,34,35,36] [Fact.z 3 ((Q1:Int)),Fact.z 3 ((Q2:Int)),Fact.z 3 ((Q2+1:Nat):Int),Fact.pz 3 (Q1,Q2+1)] (by kernel_rfl) (by kernel_rfl) ⟨?o0,?o1,?o2,?o3,trivial⟩ ?after
 case o0=>(refine oQ rfl ?_;intro ρ w1 R hcon hfn hρ hb hp hR;have e7:ρ (.tmp 7)=.pointer (some ⟨g7,0,none⟩):=hρ.tmp 7 rfl;obtain ⟨ya9,yc9,yj9,yn9⟩:=ZV.below z7 hb;obtain ⟨j90,j91,-⟩:=yj9;clear hρ hp;unfold OpRun;go_simp;exact hR _ _ (Below.refl _ _) ⟨ya9,yc9,rfl,yn9⟩)
 case o1=>(refine oQ rfl ?_;intro ρ w1 R hcon hfn hρ hb hp hR;have e9:ρ (.tmp 9)=.pointer (some ⟨g9,0,none⟩):=hρ.tmp 9 rfl;obtain ⟨ya9,yc9,yj9,yn9⟩:=ZV.below z9 hb;obtain ⟨j90,j91,-⟩:=yj9;clear hρ hp;unfold OpRun;go_simp;exact hR _ _ (Below.refl _ _) ⟨ya9,yc9,rfl,yn9⟩)
 case o2=>(refine oQ rfl ?_;intro ρ w1 R hcon hfn hρ hb hp hR;have f34:=hp 1 34 rfl rfl;clear hρ hp;unfold OpRun;go_simp;(refine (U1.out _ _ f34).mono ?_;rintro e wn ⟨v9,rfl,hv9,hbn⟩;exact ⟨_,rfl,hR _ _ hbn hv9⟩))
 case o3=>(refine oQ rfl ?_;intro ρ w1 R hcon hfn hρ hb hp hR;have f33:=hp 0 33 rfl rfl;have f35:=hp 2 35 rfl rfl;clear hρ hp;unfold OpRun;go_simp;(obtain ⟨a91,c91,e91,n91⟩:=ZD.toN f33;obtain ⟨a92,c92,e92,n92⟩:=ZD.toN f35;rw [e91,e92];exact hR _ _ (Below.refl _ _) (PZ.mk (x:=(Q1,Q2+1)) n91 n92)))
 case after=>
  intro u wn hb hf
  have f36:=hf 3 36 (by omega) rfl
  clear hf
  simp only [putAll,Act.put,List.setIfInBounds_toArray,List.set_cons_zero,List.set_cons_succ,List.drop_succ_cons,List.drop_zero,List.drop_nil]
  obtain ⟨a36,c36,a37,c37,e36,n36,n37⟩:=f36
  rw [e36]
  clear e36
  have zR2:=zR.below hb
  obtain ⟨⟨k0,k1,k2,k3⟩,f0,f1,f2,f3,hs2⟩:=id zR2
  go_wp2_with fail
  refine bodyPost_ret (by simp [results,Tryz.results98,go_sem,k0,k1,k2,k3];try rfl) rfl ?_
  exact ⟨_,rfl,PZ.mk (x:=(Q1,Q2+1)) (n36.pu4 hs2 (by decide) _ _ _ _) (n37.pu4 hs2 (by decide) _ _ _ _),below_pu4 (below_trans yb4 hb) (by omega) _ _ _ _⟩
theorem tenBoth_any (r n t:Nat) (a:Option Addr) (c:Nat) (w:World) (h0:Nz 3 w a c (zl (r:Int))) (hr:r≤10^100000) (hn:n≤1000000) (ht:t≤3900000000):
 Calls Tryz.prog 101 #[.agg #[.bool false,.slice a (zl (r:Int)).length c,.int .i64 (n:Int)],.int .i64 (t:Int)] w (RetPZ 3 w (frB r (2^n) (10^t))):=by
 have zA:QL 49 ((w.alloc (.cells #[.bool false,.slice a (zl (r:Int)).length c,.int .i64 (n:Int)] 49)).alloc (.cells #[.bool false,.slice none 0 0,.bool false,.slice none 0 0] 63)) w.heap.size false (.slice a (zl (r:Int)).length c) (n:Int):=(QL.made rfl).below (below_alloc _ _)
 have zR:BC 63 ((w.alloc (.cells #[.bool false,.slice a (zl (r:Int)).length c,.int .i64 (n:Int)] 49)).alloc (.cells #[.bool false,.slice none 0 0,.bool false,.slice none 0 0] 63)) (w.heap.size+1) false (.slice none 0 0) false (.slice none 0 0):=BC.made (by simp)
 have yb0:Below w.heap.size w ((w.alloc (.cells #[.bool false,.slice a (zl (r:Int)).length c,.int .i64 (n:Int)] 49)).alloc (.cells #[.bool false,.slice none 0 0,.bool false,.slice none 0 0] 63)):=by (repeat' first|(with_reducible first|assumption|apply bR|apply bA|apply bN|apply bD|apply bL|apply bS)|refine bT ?_ (by assumption)|go_size)
 have l1:(zl (r:Int)).length≤1000000000:=by have:=zl_le10 hr;omega
 have hD:=Nat.pow_pos (n:=t) (show 0<10 by omega)
 have l2:(zl (tenZ t)).length≤1000000000:=by have:=zl_len_ten4 t;omega
 have l3:(zl ((r:Int)*tenZ t)).length≤4000000000:=by
  have:=zl_le10 (mul10 hr (show 10^t≤10^t from Nat.le_refl _))
  rw [Int.natCast_mul] at this
  unfold tenZ
  omega
 have l4:(zl (pw n)).length≤1000000000:=Nat.le_trans (zl_len_pw n) (by omega)
 have h4:pw n≠0:=by have:=pw_pos n;omega
 have HFR:=hid (show frB r (2^n) (10^t)=(r*10^t/2^n,if r*10^t%2^n=0 then r*10^t/2^n else r*10^t/2^n+1) from by
  unfold frB cdiv;rfl)
 have HQ:=hid (show ((r:Int)*tenZ t)/pw n=((r*10^t/2^n:Nat):Int) by rw [pw_nat];exact cast_div _ _ _ _ rfl)
 have HR:=hid (show ((r:Int)*tenZ t)%pw n=((r*10^t%2^n:Nat):Int) by rw [pw_nat];exact cast_mod _ _ _ _ rfl)
 have LU:=hid (show (zl ((r*10^t/2^n:Nat):Int)).length≤4000000000 by
  have:=zl_le10 (Nat.le_trans (Nat.div_le_self (r*10^t) (2^n)) (mul10 hr (show 10^t≤10^t from Nat.le_refl _)))
  omega)
 rw [HFR.out]
 clear HFR
 generalize r*10^t%2^n=R1 at *
 generalize r*10^t/2^n=Q1 at *
 obtain ⟨Q2,hQ2⟩: ∃q,q=if R1=0 then Q1 else Q1+1:=⟨_,rfl⟩
 rw [←hQ2]
 have HQ2:=hid hQ2
 clear hQ2
 have H0:=hid h0
 clear h0 hr hD
 go_enter Tryz.func101,Tryz.ntmps101
 go_upto_region 1 with fail
 refine wp_worldZ (fun WW=>Below w.heap.size w WW∧QL 49 WW w.heap.size false (.slice a (zl (r:Int)).length c) (n:Int)∧BC 63 WW (w.heap.size+1) false (.slice none 0 0) false (.slice none 0 0)) ⟨yb0,zA,zR⟩ ?_
 clear zA zR yb0
 intro W1 ⟨yb1,zA,zR⟩
 have zV:=zA.zvN (H0.out.below yb1)
 refine wp_region_growL 14 11 [8,9,10,11,12,13,14,15,16,7,17,18,5,6] [Fact.is (.pointer (some ⟨w.heap.size,0,none⟩)),Fact.z 3 ((r:Int)),Fact.is (.int .i64 (t:Int)),Fact.z 3 (tenZ t),Fact.z 3 (((r:Int))*(tenZ t)),Fact.is (.pointer (some ⟨w.heap.size,2,none⟩)),Fact.is (.int .i64 (n:Int)),Fact.z 3 (pw n),Fact.z2 3 (((Q1:Nat):Int)) (((R1:Nat):Int)),Fact.z2 3 (((Q1:Nat):Int)) (((R1:Nat):Int)),Fact.z 3 (((Q1:Nat):Int)),Fact.z 3 (((R1:Nat):Int)),Fact.z0 W1.heap.size 47,Fact.z0 W1.heap.size 47] [12,13] (by kernel_rfl) (by kernel_rfl) rfl ⟨?o0,?o1,?o2,?o3,?o4,?o5,?o6,?o7,?o8,?o9,?o10,?o11,?o12,?o13,trivial⟩ ?late (fun d _ _ _ _ h=>by cases d<;>exact h) ?after
 case o0=>(refine oQF rfl ?_;intro ρ w1 R hcon hfn hρ hb hp hR;have e2:ρ (.tmp 2)=.pointer (some ⟨w.heap.size,0,none⟩):=hρ.tmp 2 rfl;replace hR:=fun v w2 h1 h2=>hR v w2 h1 h2 (fun h=>absurd h (by decide));clear hρ hp;unfold OpRun;go_simp;exact hR _ _ (Below.refl _ _) rfl)
 case o1=>(refine oQF rfl ?_;intro ρ w1 R hcon hfn hρ hb hp hR;have e8:ρ (.tmp 8)=_:=hp 0 8 rfl rfl;obtain ⟨ya9,yc9,yj9,yn9⟩:=ZV.below zV hb;obtain ⟨j90,j91,-⟩:=yj9;replace hR:=fun v w2 h1 h2=>hR v w2 h1 h2 (fun h=>absurd h (by decide));clear hρ hp;unfold OpRun;go_simp;exact hR _ _ (Below.refl _ _) ⟨ya9,yc9,rfl,yn9⟩)
 case o2=>(refine oQF rfl ?_;intro ρ w1 R hcon hfn hρ hb hp hR;have e1:ρ (.tmp 1)=.int .i64 (t:Int):=hρ.tmp 1 rfl;replace hR:=fun v w2 h1 h2=>hR v w2 h1 h2 (fun h=>absurd h (by decide));clear hρ hp;unfold OpRun;go_simp;exact hR _ _ (Below.refl _ _) rfl)
 case o3=>(refine oQF rfl ?_;intro ρ w1 R hcon hfn hρ hb hp hR;have e10:ρ (.tmp 10)=_:=hp 2 10 rfl rfl;replace hR:=fun v w2 h1 h2=>hR v w2 h1 h2 (fun h=>absurd h (by decide));clear hρ hp;unfold OpRun;go_simp;(refine (zTenD t _ (by first|assumption|omega)).mono ?_;rintro e wn ⟨v9,rfl,hz9,hbn⟩;exact ⟨_,rfl,hR _ _ hbn hz9⟩))
 case o4=>(refine oQF rfl ?_;intro ρ w1 R hcon hfn hρ hb hp hR;have f9:=hp 1 9 rfl rfl;have f11:=hp 3 11 rfl rfl;replace hR:=fun v w2 h1 h2=>hR v w2 h1 h2 (fun h=>absurd h (by decide));clear hρ hp;unfold OpRun;go_simp;(refine (zmulD _ _ _ _ _ f9 f11 (by first|assumption|omega) (by first|assumption|omega)).mono ?_;rintro e wn ⟨v9,rfl,hz9,hbn⟩;exact ⟨_,rfl,hR _ _ hbn hz9⟩))
 case o5=>(refine oQF rfl ?_;intro ρ w1 R hcon hfn hρ hb hp hR;have e2:ρ (.tmp 2)=.pointer (some ⟨w.heap.size,0,none⟩):=hρ.tmp 2 rfl;replace hR:=fun v w2 h1 h2=>hR v w2 h1 h2 (fun h=>absurd h (by decide));clear hρ hp;unfold OpRun;go_simp;exact hR _ _ (Below.refl _ _) rfl)
 case o6=>(refine oQF rfl ?_;intro ρ w1 R hcon hfn hρ hb hp hR;have e13:ρ (.tmp 13)=_:=hp 5 13 rfl rfl;obtain ⟨-,j12,-⟩:=zA.below hb;replace hR:=fun v w2 h1 h2=>hR v w2 h1 h2 (fun h=>absurd h (by decide));clear hρ hp;unfold OpRun;go_simp;exact hR _ _ (Below.refl _ _) rfl)
 case o7=>(refine oQF rfl ?_;intro ρ w1 R hcon hfn hρ hb hp hR;have e14:ρ (.tmp 14)=_:=hp 6 14 rfl rfl;replace hR:=fun v w2 h1 h2=>hR v w2 h1 h2 (fun h=>absurd h (by decide));clear hρ hp;unfold OpRun;go_simp;(refine (zpowD n _ (by first|assumption|omega)).mono ?_;rintro e wn ⟨v9,rfl,hz9,hbn⟩;exact ⟨_,rfl,hR _ _ hbn hz9⟩))
 case o8=>(refine oQF rfl ?_;intro ρ w1 R hcon hfn hρ hb hp hR;have f12:=hp 4 12 rfl rfl;have f15:=hp 7 15 rfl rfl;replace hR:=fun v w2 h1 h2=>hR v w2 h1 h2 (fun h=>absurd h (by decide));clear hρ hp;unfold OpRun;go_simp;(refine (zdivD _ _ _ _ _ f12 f15 (by first|assumption|omega) (by first|assumption|omega) (by first|assumption|omega)).mono ?_;rintro e wn ⟨v9,rfl,hz9,hbn⟩;exact ⟨_,rfl,hR _ _ hbn (by rw [←HQ.out,←HR.out];exact hz9)⟩))
 case o9=>(refine oQF rfl ?_;intro ρ w1 R hcon hfn hρ hb hp hR;have f16:=hp 8 16 rfl rfl;replace hR:=fun v w2 h1 h2=>hR v w2 h1 h2 (fun h=>absurd h (by decide));clear hρ hp;unfold OpRun;go_simp;exact hR _ _ (Below.refl _ _) f16)
 case o10=>(refine oQF rfl ?_;intro ρ w1 R hcon hfn hρ hb hp hR;have f7:=hp 9 7 rfl rfl;replace hR:=fun v w2 h1 h2=>hR v w2 h1 h2 (fun h=>absurd h (by decide));clear hρ hp;unfold OpRun;go_simp;(obtain ⟨a97,b97,e97,h97,k97⟩:=ZD2.parts f7;rw [e97];exact hR _ _ (Below.refl _ _) h97))
 case o11=>(refine oQF rfl ?_;intro ρ w1 R hcon hfn hρ hb hp hR;have f7:=hp 9 7 rfl rfl;replace hR:=fun v w2 h1 h2=>hR v w2 h1 h2 (fun h=>absurd h (by decide));clear hρ hp;unfold OpRun;go_simp;(obtain ⟨a97,b97,e97,h97,k97⟩:=ZD2.parts f7;rw [e97];exact hR _ _ (Below.refl _ _) k97))
 case o12=>(refine oQF rfl ?_;intro ρ w1 R hcon hfn hρ hb hp hR;clear hρ hp;unfold OpRun;go_simp;exact hR _ _ (below_alloc _ _) ⟨_,rfl,hb.size,ZL.made rfl⟩ (fun _=>⟨_,rfl,Nat.le_refl _,by simp⟩))
 case o13=>(refine oQF rfl ?_;intro ρ w1 R hcon hfn hρ hb hp hR;clear hρ hp;unfold OpRun;go_simp;exact hR _ _ (below_alloc _ _) ⟨_,rfl,hb.size,ZL.made rfl⟩ (fun _=>⟨_,rfl,Nat.le_refl _,by simp⟩))
 case late=>
  intro o ho
  simp only [List.getElem?_cons_succ,List.getElem?_cons_zero,Option.some.injEq] at ho
  subst ho
  refine ⟨rfl,?_⟩
  intro ρ w1 hρ hb hp
  have f7:=hp 9 7 rfl rfl
  obtain ⟨a97,b97,e97,h97,k97⟩:=ZD2.parts f7
  refine ⟨_,?_,k97⟩
  intro w2
  have hcon:=hρ.con
  go_simp
  try rfl
 case after=>
  intro u wn hb hf hd
  have f17:=hf 10 17 (by omega) rfl
  have f18:=hf 11 18 (by omega) rfl
  have f5:=hf 12 5 (by omega) rfl
  have f6:=hf 13 6 (by omega) rfl
  have d5_6:u 5≠u 6:=hd 12 13 5 6 (by omega) (by omega) (by omega) rfl rfl rfl rfl
  clear hf hd
  simp only [putAll,Act.put,List.setIfInBounds_toArray,List.set_cons_zero,List.set_cons_succ,List.drop_succ_cons,List.drop_zero,List.drop_nil]
  obtain ⟨xa1,xc1,xe1,xn1⟩:=f17
  obtain ⟨xa2,xc2,xe2,xn2⟩:=f18
  obtain ⟨gv5,eg1,hg1,zz1⟩:=f5
  obtain ⟨gv6,eg2,hg2,zz2⟩:=f6
  have gne:gv5≠gv6:=by intro h;apply d5_6;rw [eg1,eg2,h]
  rw [xe1,xe2,eg1,eg2]
  clear xe1 xe2 eg1 eg2 d5_6
  have zst:=zv_store2 (by decide) hb hg1 hg2 gne zz1 zz2 xn1 xn2
  obtain ⟨k0,k1,kf0,kf1,-⟩:=id zz1
  obtain ⟨l0,l1,lf0,lf1,-⟩:=id zz2
  go_upto_region 2 with fail
  clear k0 k1 kf0 kf1 l0 l1 lf0 lf1 zz1 zz2 xn1 xn2 hb
  refine wp_worldZ (fun WW=>Below _ _ WW∧ZV _ _ WW _ _∧ZV _ _ WW _ _) zst ?_
  clear zst
  intro W2 ⟨y2,z5,z6⟩
  have y3:=below_trans yb1 y2
  have zR3:=zR.below y2
  have LU1:=LU.out
  clear y2 zA zV zR yb1 HQ HR hg1 hg2 gne LU
  obtain ⟨a6,c6,zl6,n6⟩:=z6
  have H6:=hid n6
  obtain ⟨i0,i1,-⟩:=id zl6
  rw [zneg_nat] at i0
  have SG:=hid (show ∀w,Nz 3 w a6 c6 (zl (R1:Int))→Calls Tryz.prog 88 #[.agg #[.bool false,.slice a6 (zl (R1:Int)).length c6]] w fun e w'=>e=.returned (.int .i64 (cmpI (R1:Int) 0))∧Below w.heap.size w w' from fun w h=>zsignD _ _ _ (ZD.ofN h))
  by_cases hz:R1=0
  ·have e1:cmpI (R1:Int) 0=0:=by rw [hz];rfl
   rw [e1] at SG
   have e2:Q2=Q1:=by rw [HQ2.out,if_pos hz]
   clear e1 zl6 n6 hz HQ2
   subst e2
   go_upto_region 4 with (go_at_call 88;(with_reducible refine (SG.out _ H6.out).mono ?_);rintro en w7 ⟨rfl,hb7⟩)
   have y4:=below_trans y3 hb7
   have z54:=z5.below hb7
   have zR4:=zR3.below hb7
   obtain ⟨a5,c5,zl5,n5⟩:=z54
   obtain ⟨j0,j1,-⟩:=id zl5
   rw [zneg_nat] at j0
   obtain ⟨⟨k0,k1,k2,k3⟩,f0,f1,f2,f3,hs2⟩:=id zR4
   clear z5 zR3 y3 hb7 i0 i1 zl5
   go_wp2_with fail
   refine bodyPost_ret (by simp [results,Tryz.results101,go_sem,k0,k1,k2,k3];try rfl) rfl ?_
   exact ⟨_,rfl,PZ.mk (x:=(Q2,Q2)) (n5.pu4 hs2 (by decide) _ _ _ _) (n5.pu4 hs2 (by decide) _ _ _ _),below_pu4 y4 (by omega) _ _ _ _⟩
  ·have e1:cmpI (R1:Int) 0=1:=by unfold cmpI;rw [if_neg (by omega),if_pos (by omega)]
   rw [e1] at SG
   have e2:Q2=Q1+1:=by rw [HQ2.out,if_neg hz]
   have U1:=hid (show ∀v w,ZD 3 w (Q1:Int) v→Calls Tryz.prog 102 #[v] w (RetZD 3 w (Q2:Int)) from fun v w h=>by rw [e2];exact up1_any v Q1 w h LU1)
   clear e1 zl6 n6 hz HQ2 e2
   go_upto_region 3 with (go_at_call 88;(with_reducible refine (SG.out _ H6.out).mono ?_);rintro en w7 ⟨rfl,hb7⟩)
   have y4:=below_trans y3 hb7
   have z54:=z5.below hb7
   have zR4:=zR3.below hb7
   clear z5 zR3 y3 hb7 i0 i1
   refine wp_region_grow 4 [22,23,24,25] [Fact.z 3 ((Q1:Int)),Fact.z 3 ((Q1:Int)),Fact.z 3 (Q2:Int),Fact.pz 3 (Q1,Q2)] (by kernel_rfl) (by kernel_rfl) ⟨?o0,?o1,?o2,?o3,trivial⟩ ?after
   case o0=>(refine oQ rfl ?_;intro ρ w1 R hcon hfn hρ hb hp hR;have e5:ρ (.tmp 5)=.pointer (some ⟨gv5,0,none⟩):=hρ.tmp 5 rfl;obtain ⟨ya9,yc9,yj9,yn9⟩:=ZV.below z54 hb;obtain ⟨j90,j91,-⟩:=yj9;clear hρ hp;unfold OpRun;go_simp;exact hR _ _ (Below.refl _ _) ⟨ya9,yc9,rfl,yn9⟩)
   case o1=>(refine oQ rfl ?_;intro ρ w1 R hcon hfn hρ hb hp hR;have e5:ρ (.tmp 5)=.pointer (some ⟨gv5,0,none⟩):=hρ.tmp 5 rfl;obtain ⟨ya9,yc9,yj9,yn9⟩:=ZV.below z54 hb;obtain ⟨j90,j91,-⟩:=yj9;clear hρ hp;unfold OpRun;go_simp;exact hR _ _ (Below.refl _ _) ⟨ya9,yc9,rfl,yn9⟩)
   case o2=>(refine oQ rfl ?_;intro ρ w1 R hcon hfn hρ hb hp hR;have f23:=hp 1 23 rfl rfl;clear hρ hp;unfold OpRun;go_simp;(refine (U1.out _ _ f23).mono ?_;rintro e wn ⟨v9,rfl,hv9,hbn⟩;exact ⟨_,rfl,hR _ _ hbn hv9⟩))
   case o3=>(refine oQ rfl ?_;intro ρ w1 R hcon hfn hρ hb hp hR;have f22:=hp 0 22 rfl rfl;have f24:=hp 2 24 rfl rfl;clear hρ hp;unfold OpRun;go_simp;(obtain ⟨a91,c91,e91,n91⟩:=ZD.toN f22;obtain ⟨a92,c92,e92,n92⟩:=ZD.toN f24;rw [e91,e92];exact hR _ _ (Below.refl _ _) (PZ.mk (x:=(Q1,Q2)) n91 n92)))
   case after=>
    intro u wn hb hf
    have f25:=hf 3 25 (by omega) rfl
    clear hf
    simp only [putAll,Act.put,List.setIfInBounds_toArray,List.set_cons_zero,List.set_cons_succ,List.drop_succ_cons,List.drop_zero,List.drop_nil]
    obtain ⟨a36,c36,a37,c37,e36,n36,n37⟩:=f25
    rw [e36]
    clear e36
    have zR2:=zR4.below hb
    obtain ⟨⟨k0,k1,k2,k3⟩,f0,f1,f2,f3,hs2⟩:=id zR2
    go_wp2_with fail
    refine bodyPost_ret (by simp [results,Tryz.results101,go_sem,k0,k1,k2,k3];try rfl) rfl ?_
    exact ⟨_,rfl,PZ.mk (x:=(Q1,Q2)) (n36.pu4 hs2 (by decide) _ _ _ _) (n37.pu4 hs2 (by decide) _ _ _ _),below_pu4 (below_trans y4 hb) (by omega) _ _ _ _⟩
end Go.Proofs.YtehhegbkahnhgaaGreatDoor
