/- SeriesLog: what the proof leans on, part 17 (Sf0 Sf1). -/
import Derived.Test.YtehhegbkahnhgaaDoorKSeriesLog2
import Derived.Test.YtehhegbkahnhgaaDoorKSeriesLog16
set_option linter.unusedVariables false
set_option linter.unusedSimpArgs false
namespace Go.Ulp
open Go.RowKit
def PZ (ti:TypeId) (w:World) (x:PP) (v:Value):Prop:= ∃a c b d,v=.agg #[.bool false,.slice a (zl (x.1:Int)).length c,.bool false,.slice b (zl (x.2:Int)).length d]∧Nz ti w a c (zl (x.1:Int))∧Nz ti w b d (zl (x.2:Int))
theorem PZ.below {ti:TypeId} {w w':World} {x:PP} {v:Value} (h:PZ ti w x v) (hb:Below w.heap.size w w'):PZ ti w' x v:=by
 obtain ⟨a,c,b,d,e,h1,h2⟩:=h;exact ⟨a,c,b,d,e,h1.below hb,h2.below hb⟩
def RetPZ (ti:TypeId) (w:World) (x:PP) (e:Ending) (w':World):Prop:= ∃v,e=.returned v∧PZ ti w' x v∧Below w.heap.size w w'
def BC (tb:TypeId) (w:World) (g:Nat) (n0:Bool) (s0:Value) (n1:Bool) (s1:Value):Prop:=
 (w.cell? ⟨g,0,none⟩=some (.bool n0)∧w.cell? ⟨g,1,none⟩=some s0∧w.cell? ⟨g,2,none⟩=some (.bool n1)∧w.cell? ⟨g,3,none⟩=some s1)∧
  w.frozen? ⟨g,0,none⟩=false∧w.frozen? ⟨g,1,none⟩=false∧w.frozen? ⟨g,2,none⟩=false∧w.frozen? ⟨g,3,none⟩=false∧ElemIs w g tb
theorem BC.lt {tb:TypeId} {w:World} {g:Nat} {n0 n1:Bool} {s0 s1:Value} (h:BC tb w g n0 s0 n1 s1):g<w.heap.size:=World.block_lt_of_cell? w _ h.1.1
theorem BC.below {tb:TypeId} {w w':World} {g:Nat} {n0 n1:Bool} {s0 s1:Value} (h:BC tb w g n0 s0 n1 s1) (hb:Below w.heap.size w w'):BC tb w' g n0 s0 n1 s1:=by
 have hl:=h.lt
 obtain ⟨⟨h0,h1,h2,h3⟩,f0,f1,f2,f3,s⟩:=h
 exact ⟨⟨(hb.cell (p:=⟨g,0,none⟩) hl).trans h0,(hb.cell (p:=⟨g,1,none⟩) hl).trans h1,(hb.cell (p:=⟨g,2,none⟩) hl).trans h2,(hb.cell (p:=⟨g,3,none⟩) hl).trans h3⟩,
  (hb.frozen (p:=⟨g,0,none⟩) hl).trans f0,(hb.frozen (p:=⟨g,1,none⟩) hl).trans f1,(hb.frozen (p:=⟨g,2,none⟩) hl).trans f2,(hb.frozen (p:=⟨g,3,none⟩) hl).trans f3,s.below hb⟩
theorem BC.made {tb:TypeId} {w:World} {g:Nat} {n0 n1:Bool} {s0 s1:Value} (hg:g=w.heap.size):BC tb (w.alloc (.cells #[.bool n0,s0,.bool n1,s1] tb)) g n0 s0 n1 s1:=by
 subst hg
 refine ⟨⟨?_,?_,?_,?_⟩,?_,?_,?_,?_,ElemIs.made _ _ _⟩
 ·rw [World.cell?_alloc_at (hn:=rfl)];rfl
 ·rw [World.cell?_alloc_at (hn:=rfl)];rfl
 ·rw [World.cell?_alloc_at (hn:=rfl)];rfl
 ·rw [World.cell?_alloc_at (hn:=rfl)];rfl
 ·unfold World.frozen?;rw [heap_alloc_new];simp
 ·unfold World.frozen?;rw [heap_alloc_new];simp
 ·unfold World.frozen?;rw [heap_alloc_new];simp
 ·unfold World.frozen?;rw [heap_alloc_new];simp
def pu4 (w:World) (g:Nat) (u0 u1 u2 u3:Value):World:=(((w.setCell ⟨g,0,none⟩ u0).setCell ⟨g,1,none⟩ u1).setCell ⟨g,2,none⟩ u2).setCell ⟨g,3,none⟩ u3
theorem cell_pu4_far {w:World} {g k o:Nat} {u0 u1 u2 u3:Value} (h:k≠g):(pu4 w g u0 u1 u2 u3).cell? ⟨k,o,none⟩=w.cell? ⟨k,o,none⟩:=by
 unfold pu4
 rw [World.cell?_setCell_other (h:=fun e=>h (by injection e with e;exact e.symm)),World.cell?_setCell_other (h:=fun e=>h (by injection e with e;exact e.symm)),World.cell?_setCell_other (h:=fun e=>h (by injection e with e;exact e.symm)),World.cell?_setCell_other (h:=fun e=>h (by injection e with e;exact e.symm))]
theorem frozen_pu4 {w:World} {g:Nat} {a:Addr} {u0 u1 u2 u3:Value}:(pu4 w g u0 u1 u2 u3).frozen? a=w.frozen? a:=by
 unfold pu4
 rw [frozen_setCell,frozen_setCell,frozen_setCell,frozen_setCell]
theorem pu4_elem {w:World} {g k:Nat} {t:TypeId} (h:ElemIs w k t) (u0 u1 u2 u3:Value):ElemIs (pu4 w g u0 u1 u2 u3) k t:=(((h.setCell _ _).setCell _ _).setCell _ _).setCell _ _
theorem BC.far {tb:TypeId} {w:World} {g k:Nat} {n0 n1:Bool} {s0 s1:Value} (h:BC tb w k n0 s0 n1 s1) (hk:k≠g) (u0 u1 u2 u3:Value):BC tb (pu4 w g u0 u1 u2 u3) k n0 s0 n1 s1:=by
 obtain ⟨⟨h0,h1,h2,h3⟩,f0,f1,f2,f3,s⟩:=h
 refine ⟨⟨?_,?_,?_,?_⟩,?_,?_,?_,?_,pu4_elem s _ _ _ _⟩
 ·rw [cell_pu4_far hk];exact h0
 ·rw [cell_pu4_far hk];exact h1
 ·rw [cell_pu4_far hk];exact h2
 ·rw [cell_pu4_far hk];exact h3
 ·rw [frozen_pu4];exact f0
 ·rw [frozen_pu4];exact f1
 ·rw [frozen_pu4];exact f2
 ·rw [frozen_pu4];exact f3
theorem BC.put {tb:TypeId} {w:World} {g:Nat} {n0 n1:Bool} {s0 s1:Value} (h:BC tb w g n0 s0 n1 s1) (m0 m1:Bool) (u0 u1:Value):BC tb (pu4 w g (.bool m0) u0 (.bool m1) u1) g m0 u0 m1 u1:=by
 obtain ⟨⟨h0,h1,h2,h3⟩,f0,f1,f2,f3,s⟩:=h
 have ne: ∀i j:Nat,i≠j→(⟨g,i,none⟩:Addr)≠⟨g,j,none⟩:=fun i j hij e=>hij (by injection e)
 refine ⟨⟨?_,?_,?_,?_⟩,?_,?_,?_,?_,pu4_elem s _ _ _ _⟩
 ·unfold pu4
  rw [World.cell?_setCell_other (h:=ne _ _ (by decide)),World.cell?_setCell_other (h:=ne _ _ (by decide)),World.cell?_setCell_other (h:=ne _ _ (by decide))]
  exact World.cell?_setCell_same (w:=w) _ _ h0
 ·unfold pu4
  rw [World.cell?_setCell_other (h:=ne _ _ (by decide)),World.cell?_setCell_other (h:=ne _ _ (by decide))]
  refine World.cell?_setCell_same _ _ _ (u:=s0) ?_
  rw [World.cell?_setCell_other (h:=ne _ _ (by decide))];exact h1
 ·unfold pu4
  rw [World.cell?_setCell_other (h:=ne _ _ (by decide))]
  refine World.cell?_setCell_same _ _ _ (u:=.bool n1) ?_
  rw [World.cell?_setCell_other (h:=ne _ _ (by decide)),World.cell?_setCell_other (h:=ne _ _ (by decide))];exact h2
 ·unfold pu4
  refine World.cell?_setCell_same _ _ _ (u:=s1) ?_
  rw [World.cell?_setCell_other (h:=ne _ _ (by decide)),World.cell?_setCell_other (h:=ne _ _ (by decide)),World.cell?_setCell_other (h:=ne _ _ (by decide))];exact h3
 ·rw [frozen_pu4];exact f0
 ·rw [frozen_pu4];exact f1
 ·rw [frozen_pu4];exact f2
 ·rw [frozen_pu4];exact f3
theorem Nz.pu4 {ti tb:TypeId} {w:World} {a:Option Addr} {c:Nat} {L:List Nat} (h:Nz ti w a c L) {g:Nat} (s:ElemIs w g tb) (hne:tb≠ti) (u0 u1 u2 u3:Value):Nz ti (Go.Ulp.pu4 w g u0 u1 u2 u3) a c L:=
 (((h.setCell s hne _ _).setCell (s.setCell _ _) hne _ _).setCell ((s.setCell _ _).setCell _ _) hne _ _).setCell (((s.setCell _ _).setCell _ _).setCell _ _) hne _ _
theorem below_pu4 {B:Nat} {w w':World} (h:Below B w w') {g:Nat} (hg:B≤g) (u0 u1 u2 u3:Value):Below B w (Go.Ulp.pu4 w' g u0 u1 u2 u3):=
 (((h.setCell (p:=⟨g,0,none⟩) hg _).setCell (p:=⟨g,1,none⟩) hg _).setCell (p:=⟨g,2,none⟩) hg _).setCell (p:=⟨g,3,none⟩) hg _
def BV (tb ti:TypeId) (w:World) (g:Nat) (x:PP):Prop:= ∃a c b d,BC tb w g false (.slice a (zl (x.1:Int)).length c) false (.slice b (zl (x.2:Int)).length d)∧Nz ti w a c (zl (x.1:Int))∧Nz ti w b d (zl (x.2:Int))
theorem BV.lt {tb ti:TypeId} {w:World} {g:Nat} {x:PP} (h:BV tb ti w g x):g<w.heap.size:=by obtain ⟨a,c,b,d,h1,-⟩:=h;exact h1.lt
theorem BV.below {tb ti:TypeId} {w w':World} {g:Nat} {x:PP} (h:BV tb ti w g x) (hb:Below w.heap.size w w'):BV tb ti w' g x:=by
 obtain ⟨a,c,b,d,h1,h2,h3⟩:=h;exact ⟨a,c,b,d,h1.below hb,h2.below hb,h3.below hb⟩
theorem BV.made {tb ti:TypeId} {w:World} {g:Nat} {x:PP} {a b:Option Addr} {c d:Nat} (hg:g=w.heap.size) (h1:Nz ti w a c (zl (x.1:Int))) (h2:Nz ti w b d (zl (x.2:Int))):
 BV tb ti (w.alloc (.cells #[.bool false,.slice a (zl (x.1:Int)).length c,.bool false,.slice b (zl (x.2:Int)).length d] tb)) g x:=
 ⟨a,c,b,d,BC.made hg,h1.below (below_alloc _ _),h2.below (below_alloc _ _)⟩
theorem BV.far {tb ti:TypeId} {w:World} {g k:Nat} {x:PP} (h:BV tb ti w k x) (hk:k≠g) (s:ElemIs w g tb) (hne:tb≠ti) (u0 u1 u2 u3:Value):BV tb ti (pu4 w g u0 u1 u2 u3) k x:=by
 obtain ⟨a,c,b,d,h1,h2,h3⟩:=h
 exact ⟨a,c,b,d,h1.far hk _ _ _ _,h2.pu4 s hne _ _ _ _,h3.pu4 s hne _ _ _ _⟩
theorem BC.put_bv {tb ti:TypeId} {w:World} {g:Nat} {n0 n1:Bool} {s0 s1:Value} {x:PP} {a b:Option Addr} {c d:Nat} (h:BC tb w g n0 s0 n1 s1) (hne:tb≠ti) (h1:Nz ti w a c (zl (x.1:Int))) (h2:Nz ti w b d (zl (x.2:Int))):
 BV tb ti (pu4 w g (.bool false) (.slice a (zl (x.1:Int)).length c) (.bool false) (.slice b (zl (x.2:Int)).length d)) g x:=
 ⟨a,c,b,d,h.put _ _ _ _,h1.pu4 h.2.2.2.2.2 hne _ _ _ _,h2.pu4 h.2.2.2.2.2 hne _ _ _ _⟩
theorem zl_le10 {x E:Nat} (h:x≤10^E):(zl (x:Int)).length≤E/4+1:=
 Nat.le_trans (zl_len_le (x:=((x:Nat):Int)) (y:=tenZ E) (by unfold tenZ;rw [Int.natAbs_natCast,Int.natAbs_natCast];exact h)) (zl_len_ten4 E)
theorem mul10 {x y E F:Nat} (h:x≤10^E) (k:y≤10^F):x*y≤10^(E+F):=by rw [Nat.pow_add];exact Nat.mul_le_mul h k
def Fact.pz (ti:TypeId) (x:PP):Fact:=⟨fun v w=>PZ ti w x v,fun _ _ _ h hb=>h.below hb⟩
theorem ZD.ofN {ti:TypeId} {w:World} {x:Nat} {a:Option Addr} {c:Nat} (h:Nz ti w a c (zl (x:Int))):ZD ti w (x:Int) (.agg #[.bool false,.slice a (zl (x:Int)).length c]):=⟨a,c,by rw [zneg_nat],h⟩
theorem ZD.toN {ti:TypeId} {w:World} {x:Nat} {v:Value} (h:ZD ti w (x:Int) v): ∃a c,v=.agg #[.bool false,.slice a (zl (x:Int)).length c]∧Nz ti w a c (zl (x:Int)):=by
 obtain ⟨a,c,rfl,h1⟩:=h;exact ⟨a,c,by rw [zneg_nat],h1⟩
theorem QL.zvN {tq ti:TypeId} {w:World} {g x:Nat} {a:Option Addr} {c:Nat} {k:Int} (h:QL tq w g false (.slice a (zl (x:Int)).length c) k) (n:Nz ti w a c (zl (x:Int))):ZV tq ti w g (x:Int):=⟨a,c,by rw [zneg_nat];exact h.1,n⟩
theorem PZ.mk {ti:TypeId} {w:World} {x:PP} {a b:Option Addr} {c d:Nat} (h1:Nz ti w a c (zl (x.1:Int))) (h2:Nz ti w b d (zl (x.2:Int))):PZ ti w x (.agg #[.bool false,.slice a (zl (x.1:Int)).length c,.bool false,.slice b (zl (x.2:Int)).length d]):=⟨a,c,b,d,rfl,h1,h2⟩
end Go.Ulp
namespace Go.Proofs.YtehhegbkahnhgaaDoor
open Go.RowKit Go.Ulp
set_option maxHeartbeats 2000000
set_option maxRecDepth 100000
theorem zmulN (v u:Value) (x y:Nat) (w:World) (hv:ZD 3 w (x:Int) v) (hu:ZD 3 w (y:Int) u) (hx:(zl (x:Int)).length≤1000000000) (hy:(zl (y:Int)).length≤1000000000):Calls Tryd.prog 31 #[v,u] w (RetZD 3 w ((x*y:Nat):Int)):=by
 have h:=zmulD v u x y w hv hu hx hy
 rw [←Int.natCast_mul] at h;exact h
theorem zaddN (v u:Value) (x y:Nat) (w:World) (hv:ZD 3 w (x:Int) v) (hu:ZD 3 w (y:Int) u) (hx:(zl (x:Int)).length≤4000000000) (hy:(zl (y:Int)).length≤4000000000):Calls Tryd.prog 59 #[v,u] w (RetZD 3 w ((x+y:Nat):Int)):=by
 have h:=zaddD v u x y w hv hu hx hy
 rw [←Int.natCast_add] at h;exact h
theorem zdivN (v u:Value) (x y:Nat) (w:World) (hv:ZD 3 w (x:Int) v) (hu:ZD 3 w (y:Int) u) (hx:(zl (x:Int)).length≤4000000000) (hy:(zl (y:Int)).length≤1000000000) (h0:0<y):Calls Tryd.prog 61 #[v,u] w (RetZD2 3 w ((x/y:Nat):Int) ((x%y:Nat):Int)):=by
 have h:=zdivD v u x y w hv hu hx hy (by omega)
 rw [←Int.natCast_ediv,←Int.natCast_emod] at h;exact h
theorem zTenN (n:Nat) (w:World) (hn:n≤6000000000):Calls Tryd.prog 66 #[.int .i64 (n:Int)] w (RetZD 3 w ((10^n:Nat):Int)):=zTenD n w hn
theorem up1_any (v:Value) (x:Nat) (w:World) (hv:ZD 3 w (x:Int) v) (hl:(zl (x:Int)).length≤4000000000):Calls Tryd.prog 69 #[v] w (RetZD 3 w ((x+1:Nat):Int)):=by
 obtain ⟨a,c,rfl,h⟩:=hv
 have zA:ZV 32 3 ((w.alloc (.cells #[.bool (zneg (x:Int)),.slice a (zl (x:Int)).length c] 32)).alloc (.cells #[.bool false,.slice none 0 0] 32)) w.heap.size (x:Int):=(zv_made h _ rfl).below (below_alloc _ _)
 have zR:ZL 32 ((w.alloc (.cells #[.bool (zneg (x:Int)),.slice a (zl (x:Int)).length c] 32)).alloc (.cells #[.bool false,.slice none 0 0] 32)) (w.heap.size+1) false (.slice none 0 0):=ZL.made (by simp)
 have yb0:Below w.heap.size w ((w.alloc (.cells #[.bool (zneg (x:Int)),.slice a (zl (x:Int)).length c] 32)).alloc (.cells #[.bool false,.slice none 0 0] 32)):=by (repeat' first|(with_reducible first|assumption|apply bR|apply bA|apply bN|apply bD|apply bL|apply bS)|refine bT ?_ (by assumption)|go_size)
 have l1:(zl 1).length≤4000000000:=by decide
 have HX:=hid (show (x:Int)+1=((x+1:Nat):Int) from by omega)
 clear h
 go_enter Tryd.func69,Tryd.ntmps69
 go_upto_region 1 with fail
 refine wp_region_grow 3 [3,4,5] [Fact.z 3 ((x:Int)),Fact.z 3 (1),Fact.z 3 (((x+1:Nat):Int))] (by kernel_rfl) (by kernel_rfl) ⟨?o0,?o1,?o2,trivial⟩ ?after
 case o0=>(refine oQ rfl ?_;intro ρ w1 R hcon hfn hρ hb hp hR;have e1:ρ (.tmp 1)=.pointer (some ⟨w.heap.size,0,none⟩):=hρ.tmp 1 rfl;obtain ⟨ya9,yc9,yj9,yn9⟩:=ZV.below zA hb;obtain ⟨j90,j91,-⟩:=yj9;clear hρ hp;unfold OpRun;go_simp;exact hR _ _ (Below.refl _ _) ⟨ya9,yc9,rfl,yn9⟩)
 case o1=>(refine oQ rfl ?_;intro ρ w1 R hcon hfn hρ hb hp hR;clear hρ hp;unfold OpRun;go_simp;(refine (zND _ (by omega) (by omega) _).mono ?_;rintro e wn ⟨v9,rfl,hz9,hbn⟩;exact ⟨_,rfl,hR _ _ hbn hz9⟩))
 case o2=>(refine oQ rfl ?_;intro ρ w1 R hcon hfn hρ hb hp hR;have f3:=hp 0 3 rfl rfl;have f4:=hp 1 4 rfl rfl;clear hρ hp;unfold OpRun;go_simp;(refine (zaddD _ _ _ _ _ f3 f4 (by first|assumption|omega) (by first|assumption|omega)).mono ?_;rintro e wn ⟨v9,rfl,hz9,hbn⟩;exact ⟨_,rfl,hR _ _ hbn (ZD.cast hz9 HX.out)⟩))
 case after=>
  intro u wn hb hf
  have f5:=hf 2 5 (by omega) rfl
  clear hf
  simp only [putAll,Act.put,List.setIfInBounds_toArray,List.set_cons_zero,List.set_cons_succ,List.drop_succ_cons,List.drop_zero,List.drop_nil]
  obtain ⟨a5,c5,e5,hN⟩:=f5
  rw [e5]
  clear e5
  have zR2:=zR.below hb
  obtain ⟨k0,k1,f0,f1,hs2⟩:=id zR2
  go_wp2_with fail
  refine bodyPost_ret (by simp [results,Tryd.results69,go_sem,k0,k1];try rfl) rfl ?_
  exact ⟨_,rfl,⟨a5,c5,rfl,hN.st2 hs2 (by decide) _ _⟩,((below_trans yb0 hb).setCell (by first|omega|(simp;done)|(simp;omega)) _).setCell (by first|omega|(simp;done)|(simp;omega)) _⟩
theorem bothMul_any (x y:PP) (t E:Nat) (v u:Value) (w:World) (hv:PZ 3 w x v) (hu:PZ 3 w y u) (hE:E≤3900000000) (ht:t≤3900000000) (x1:x.1≤10^E) (x2:x.2≤10^E) (y1:y.1≤10^E) (y2:y.2≤10^E):
 Calls Tryd.prog 63 #[v,u,.int .i64 (t:Int)] w (RetPZ 3 w (bMul x y (10^t))):=by
 obtain ⟨xl,xh⟩:=x
 obtain ⟨yl,yh⟩:=y
 simp only at x1 x2 y1 y2
 obtain ⟨a0,c0,a1,c1,rfl,n0,n1⟩:=hv
 obtain ⟨a2,c2,a3,c3,rfl,n2,n3⟩:=hu
 simp only at n0 n1 n2 n3
 have hD:=Nat.pow_pos (n:=t) (show 0<10 by omega)
 have lD:=zl_le10 (x:=10^t) (E:=t) (Nat.le_refl _)
 have M1:=hid (fun v u w h k=>zmulN v u xl yl w h k (by have:=zl_le10 x1;omega) (by have:=zl_le10 y1;omega))
 have M2:=hid (fun v u w h k=>zmulN v u xh yh w h k (by have:=zl_le10 x2;omega) (by have:=zl_le10 y2;omega))
 have TN:=hid (fun w=>zTenN t w (by omega))
 have b1:=mul10 x1 y1
 have b2:=mul10 x2 y2
 have D1:=hid (fun v u w h k=>zdivN v u (xl*yl) (10^t) w h k (by have:=zl_le10 b1;omega) (by omega) hD)
 have D2:=hid (fun v u w h k=>zdivN v u (xh*yh) (10^t) w h k (by have:=zl_le10 b2;omega) (by omega) hD)
 have U1:=hid (fun v w h=>up1_any v (xh*yh/10^t) w h (by have:=zl_le10 (Nat.le_trans (Nat.div_le_self (xh*yh) (10^t)) b2);omega))
 have HE:=hid (show bMul (xl,xh) (yl,yh) (10^t)=(xl*yl/10^t,xh*yh/10^t+1) from rfl)
 rw [HE.out]
 clear HE
 generalize 10^t=D at *
 generalize xl*yl=P1 at *
 generalize xh*yh=P2 at *
 generalize P1%D=R1 at *
 generalize P2%D=R2 at *
 generalize P1/D=Q1 at *
 generalize P2/D=Q2 at *
 clear x1 x2 y1 y2 b1 b2 lD hD
 have zA:BC 64 (((w.alloc (.cells #[.bool false,.slice a0 (zl (xl:Int)).length c0,.bool false,.slice a1 (zl (xh:Int)).length c1] 64)).alloc (.cells #[.bool false,.slice a2 (zl (yl:Int)).length c2,.bool false,.slice a3 (zl (yh:Int)).length c3] 64)).alloc (.cells #[.bool false,.slice none 0 0,.bool false,.slice none 0 0] 64)) w.heap.size false (.slice a0 (zl (xl:Int)).length c0) false (.slice a1 (zl (xh:Int)).length c1):=((BC.made rfl).below (below_alloc _ _)).below (below_alloc _ _)
 have zB:BC 64 (((w.alloc (.cells #[.bool false,.slice a0 (zl (xl:Int)).length c0,.bool false,.slice a1 (zl (xh:Int)).length c1] 64)).alloc (.cells #[.bool false,.slice a2 (zl (yl:Int)).length c2,.bool false,.slice a3 (zl (yh:Int)).length c3] 64)).alloc (.cells #[.bool false,.slice none 0 0,.bool false,.slice none 0 0] 64)) (w.heap.size+1) false (.slice a2 (zl (yl:Int)).length c2) false (.slice a3 (zl (yh:Int)).length c3):=(BC.made (by simp)).below (below_alloc _ _)
 have zR:BC 64 (((w.alloc (.cells #[.bool false,.slice a0 (zl (xl:Int)).length c0,.bool false,.slice a1 (zl (xh:Int)).length c1] 64)).alloc (.cells #[.bool false,.slice a2 (zl (yl:Int)).length c2,.bool false,.slice a3 (zl (yh:Int)).length c3] 64)).alloc (.cells #[.bool false,.slice none 0 0,.bool false,.slice none 0 0] 64)) (w.heap.size+2) false (.slice none 0 0) false (.slice none 0 0):=BC.made (by simp)
 have yb0:Below w.heap.size w (((w.alloc (.cells #[.bool false,.slice a0 (zl (xl:Int)).length c0,.bool false,.slice a1 (zl (xh:Int)).length c1] 64)).alloc (.cells #[.bool false,.slice a2 (zl (yl:Int)).length c2,.bool false,.slice a3 (zl (yh:Int)).length c3] 64)).alloc (.cells #[.bool false,.slice none 0 0,.bool false,.slice none 0 0] 64)):=by (repeat' first|(with_reducible first|assumption|apply bR|apply bA|apply bN|apply bD|apply bL|apply bS)|refine bT ?_ (by assumption)|go_size)
 have H0:=hid n0
 have H1:=hid n1
 have H2:=hid n2
 have H3:=hid n3
 clear n0 n1 n2 n3
 go_enter Tryd.func63,Tryd.ntmps63
 go_upto_region 1 with fail
 obtain ⟨⟨i0,i1,i2,i3⟩,-⟩:=id zA
 obtain ⟨⟨j0,j1,j2,j3⟩,-⟩:=id zB
 go_upto_region 2 with (first
  |(go_at_call 31;(with_reducible refine (M1.out _ _ _ (ZD.ofN (H0.out.below yb0)) (ZD.ofN (H2.out.below yb0))).mono ?_);rintro en w1 ⟨v1,rfl,hv1,hb1⟩)
  |(go_at_call 66;(with_reducible refine (TN.out _).mono ?_);rintro en w2 ⟨v2,rfl,hv2,hb2⟩)
  |(go_at_call 61;(with_reducible refine (D1.out _ _ _ (hv1.below hb2) hv2).mono ?_);rintro en w3 ⟨v3,rfl,⟨a4,c4,a5,c5,rfl,n4,n5⟩,hb3⟩))
 obtain ⟨yb4,z7,z8⟩:=zv_made2 (tz:=32) n4 n5
 have yb3:=below_trans (below_trans (below_trans (below_trans yb0 hb1) hb2) hb3) yb4
 have zB3:=((((zB.below hb1).below hb2).below hb3).below yb4)
 have zA3:=((((zA.below hb1).below hb2).below hb3).below yb4)
 have zR3:=((((zR.below hb1).below hb2).below hb3).below yb4)
 obtain ⟨g7,hg7⟩: ∃g,g=w3.heap.size:=⟨_,rfl⟩
 rw [←hg7] at z7 z8 ⊢
 refine wp_worldZ (fun WW=>Below w.heap.size w WW∧ZV 32 3 WW g7 (Q1:Int)∧BC 64 WW w.heap.size false (.slice a0 (zl (xl:Int)).length c0) false (.slice a1 (zl (xh:Int)).length c1)∧BC 64 WW (w.heap.size+1) false (.slice a2 (zl (yl:Int)).length c2) false (.slice a3 (zl (yh:Int)).length c3)∧BC 64 WW (w.heap.size+2) false (.slice none 0 0) false (.slice none 0 0)) ⟨yb3,z7,zA3,zB3,zR3⟩ ?_
 clear hb1 hb2 hb3 yb4 z7 z8 yb3 zA3 zB3 zR3 n4 n5 i0 i1 i2 i3 j0 j1 j2 j3 zA zB zR hg7 hv1 hv2 yb0 M1 D1
 intro W3 ⟨yb3,z7,zA,zB,zR⟩
 obtain ⟨⟨i0,i1,i2,i3⟩,-⟩:=id zA
 obtain ⟨⟨j0,j1,j2,j3⟩,-⟩:=id zB
 go_upto_region 3 with (first
  |(go_at_call 31;(with_reducible refine (M2.out _ _ _ (ZD.ofN (H1.out.below yb3)) (ZD.ofN (H3.out.below yb3))).mono ?_);rintro en w1 ⟨v1,rfl,hv1,hb1⟩)
  |(go_at_call 66;(with_reducible refine (TN.out _).mono ?_);rintro en w2 ⟨v2,rfl,hv2,hb2⟩)
  |(go_at_call 61;(with_reducible refine (D2.out _ _ _ (hv1.below hb2) hv2).mono ?_);rintro en w3 ⟨v3,rfl,⟨a4,c4,a5,c5,rfl,n4,n5⟩,hb3⟩))
 obtain ⟨yb4,z9,z10⟩:=zv_made2 (tz:=32) n4 n5
 have yb5:=below_trans (below_trans (below_trans (below_trans yb3 hb1) hb2) hb3) yb4
 have z73:=((((z7.below hb1).below hb2).below hb3).below yb4)
 have zR3:=((((zR.below hb1).below hb2).below hb3).below yb4)
 obtain ⟨g9,hg9⟩: ∃g,g=w3.heap.size:=⟨_,rfl⟩
 rw [←hg9] at z9 z10 ⊢
 refine wp_worldZ (fun WW=>Below w.heap.size w WW∧ZV 32 3 WW g7 (Q1:Int)∧ZV 32 3 WW g9 (Q2:Int)∧BC 64 WW (w.heap.size+2) false (.slice none 0 0) false (.slice none 0 0)) ⟨yb5,z73,z9,zR3⟩ ?_
 clear hb1 hb2 hb3 yb4 z73 z9 z10 yb5 zR3 n4 n5 i0 i1 i2 i3 j0 j1 j2 j3 zA zB zR hg9 hv1 hv2 yb3 z7 M2 D2 TN
 intro W4 ⟨yb4,z7,z9,zR⟩
 refine wp_region_grow 4 [33,34,35,36] [Fact.z 3 ((Q1:Int)),Fact.z 3 ((Q2:Int)),Fact.z 3 ((Q2+1:Nat):Int),Fact.pz 3 (Q1,Q2+1)] (by kernel_rfl) (by kernel_rfl) ⟨?o0,?o1,?o2,?o3,trivial⟩ ?after
 case o0=>(refine oQ rfl ?_;intro ρ w1 R hcon hfn hρ hb hp hR;have e7:ρ (.tmp 7)=.pointer (some ⟨g7,0,none⟩):=hρ.tmp 7 rfl;obtain ⟨ya9,yc9,yj9,yn9⟩:=ZV.below z7 hb;obtain ⟨j90,j91,-⟩:=yj9;clear hρ hp;unfold OpRun;go_simp;exact hR _ _ (Below.refl _ _) ⟨ya9,yc9,rfl,yn9⟩)
 case o1=>(refine oQ rfl ?_;intro ρ w1 R hcon hfn hρ hb hp hR;have e9:ρ (.tmp 9)=.pointer (some ⟨g9,0,none⟩):=hρ.tmp 9 rfl;obtain ⟨ya9,yc9,yj9,yn9⟩:=ZV.below z9 hb;obtain ⟨j90,j91,-⟩:=yj9;clear hρ hp;unfold OpRun;go_simp;exact hR _ _ (Below.refl _ _) ⟨ya9,yc9,rfl,yn9⟩)
 case o2=>(refine oQ rfl ?_;intro ρ w1 R hcon hfn hρ hb hp hR;have f34:=hp 1 34 rfl rfl;clear hρ hp;unfold OpRun;go_simp;(refine (U1.out _ _ f34).mono ?_;rintro e wn ⟨v9,rfl,hv9,hbn⟩;exact ⟨_,rfl,hR _ _ hbn hv9⟩))
 case o3=>(refine oQ rfl ?_;intro ρ w1 R hcon hfn hρ hb hp hR;have f33:=hp 0 33 rfl rfl;have f35:=hp 2 35 rfl rfl;clear hρ hp;unfold OpRun;go_simp;(obtain ⟨a91,c91,e91,n91⟩:=ZD.toN f33;obtain ⟨a92,c92,e92,n92⟩:=ZD.toN f35;rw [e91,e92];exact hR _ _ (Below.refl _ _) (PZ.mk (x:=(Q1,Q2+1)) n91 n92)))
 case after=>
  intro u wn hb hf
  have f36:=hf 3 36 (by omega) rfl
  clear hf
  simp only [putAll,Act.put,List.setIfInBounds_toArray,List.set_cons_zero,List.set_cons_succ,List.drop_succ_cons,List.drop_zero,List.drop_nil]
  obtain ⟨a36,c36,a37,c37,e36,n36,n37⟩:=f36
  rw [e36]
  clear e36
  have zR2:=zR.below hb
  obtain ⟨⟨k0,k1,k2,k3⟩,f0,f1,f2,f3,hs2⟩:=id zR2
  go_wp2_with fail
  refine bodyPost_ret (by simp [results,Tryd.results63,go_sem,k0,k1,k2,k3];try rfl) rfl ?_
  exact ⟨_,rfl,PZ.mk (x:=(Q1,Q2+1)) (n36.pu4 hs2 (by decide) _ _ _ _) (n37.pu4 hs2 (by decide) _ _ _ _),below_pu4 (below_trans yb4 hb) (by omega) _ _ _ _⟩
end Go.Proofs.YtehhegbkahnhgaaDoor
namespace Go.Ulp
open Go.RowKit
structure BeOK (y:PP) (t N:Nat):Prop where
 t0:20≤t
 t1:t≤3000000000
 h1:y.2≤10^t
 h2:y.1≤y.2
 h3:y.2≤y.1+1
 n1:1≤N
 n2:N≤12000000002
 e1:(beT y (10^t) N).2≤2
 e2: ∀i,i<N→ ¬(beT y (10^t) i).2≤2
theorem BV.lo {tb ti:TypeId} {w:World} {g:Nat} {x:PP} (h:BV tb ti w g x): ∃a c,w.cell? ⟨g,0,none⟩=some (.bool false)∧w.cell? ⟨g,1,none⟩=some (.slice a (zl (x.1:Int)).length c)∧ZD ti w (x.1:Int) (.agg #[.bool false,.slice a (zl (x.1:Int)).length c]):=by
 obtain ⟨a,c,b,d,⟨⟨h0,h1,h2,h3⟩,-⟩,n1,n2⟩:=h;exact ⟨a,c,h0,h1,ZD.ofN n1⟩
theorem BV.hi {tb ti:TypeId} {w:World} {g:Nat} {x:PP} (h:BV tb ti w g x): ∃a c,w.cell? ⟨g,2,none⟩=some (.bool false)∧w.cell? ⟨g,3,none⟩=some (.slice a (zl (x.2:Int)).length c)∧ZD ti w (x.2:Int) (.agg #[.bool false,.slice a (zl (x.2:Int)).length c]):=by
 obtain ⟨a,c,b,d,⟨⟨h0,h1,h2,h3⟩,-⟩,n1,n2⟩:=h;exact ⟨b,d,h2,h3,ZD.ofN n2⟩
theorem BV.all {tb ti:TypeId} {w:World} {g:Nat} {x:PP} (h:BV tb ti w g x): ∃a c b d,(w.cell? ⟨g,0,none⟩=some (.bool false)∧w.cell? ⟨g,1,none⟩=some (.slice a (zl (x.1:Int)).length c)∧w.cell? ⟨g,2,none⟩=some (.bool false)∧w.cell? ⟨g,3,none⟩=some (.slice b (zl (x.2:Int)).length d))∧PZ ti w x (.agg #[.bool false,.slice a (zl (x.1:Int)).length c,.bool false,.slice b (zl (x.2:Int)).length d]):=by
 obtain ⟨a,c,b,d,⟨h0,-⟩,n1,n2⟩:=h;exact ⟨a,c,b,d,h0,PZ.mk n1 n2⟩
theorem BV.bc {tb ti:TypeId} {w:World} {g:Nat} {x:PP} (h:BV tb ti w g x): ∃n0 s0 n1 s1,BC tb w g n0 s0 n1 s1:=by
 obtain ⟨a,c,b,d,h1,-⟩:=h;exact ⟨_,_,_,_,h1⟩
theorem BC.set1 {tb:TypeId} {w:World} {g:Nat} {n0 n1:Bool} {s0 s1:Value} (h:BC tb w g n0 s0 n1 s1) (a:Addr) (u:Value) (hk:g≠a.block):BC tb (w.setCell a u) g n0 s0 n1 s1:=by
 obtain ⟨⟨h0,h1,h2,h3⟩,f0,f1,f2,f3,s⟩:=h
 have ne: ∀o:Nat,a≠(⟨g,o,none⟩:Addr):=fun o e=>hk (by rw [e])
 refine ⟨⟨?_,?_,?_,?_⟩,?_,?_,?_,?_,s.setCell _ _⟩
 ·rw [World.cell?_setCell_other (h:=ne _)];exact h0
 ·rw [World.cell?_setCell_other (h:=ne _)];exact h1
 ·rw [World.cell?_setCell_other (h:=ne _)];exact h2
 ·rw [World.cell?_setCell_other (h:=ne _)];exact h3
 ·rw [frozen_setCell];exact f0
 ·rw [frozen_setCell];exact f1
 ·rw [frozen_setCell];exact f2
 ·rw [frozen_setCell];exact f3
theorem BV.put_hi {tb ti:TypeId} {w:World} {g:Nat} {x:PP} {z:Nat} {b:Option Addr} {d:Nat} (h:BV tb ti w g x) (hne:tb≠ti) (n:Nz ti w b d (zl (z:Int))):BV tb ti ((w.setCell ⟨g,2,none⟩ (.bool false)).setCell ⟨g,3,none⟩ (.slice b (zl (z:Int)).length d)) g (x.1,z):=by
 obtain ⟨a,c,b',d',⟨⟨h0,h1,h2,h3⟩,f0,f1,f2,f3,s⟩,n1,n2⟩:=h
 have ne: ∀i j:Nat,i≠j→(⟨g,i,none⟩:Addr)≠⟨g,j,none⟩:=fun i j hij e=>hij (by injection e)
 refine ⟨a,c,b,d,⟨⟨?_,?_,?_,?_⟩,?_,?_,?_,?_,(s.setCell _ _).setCell _ _⟩,(n1.setCell s hne _ _).setCell (s.setCell _ _) hne _ _,(n.setCell s hne _ _).setCell (s.setCell _ _) hne _ _⟩
 ·rw [World.cell?_setCell_other (h:=ne _ _ (by decide)),World.cell?_setCell_other (h:=ne _ _ (by decide))];exact h0
 ·rw [World.cell?_setCell_other (h:=ne _ _ (by decide)),World.cell?_setCell_other (h:=ne _ _ (by decide))];exact h1
 ·rw [World.cell?_setCell_other (h:=ne _ _ (by decide))]
  exact World.cell?_setCell_same _ _ _ h2
 ·refine World.cell?_setCell_same _ _ _ (u:=.slice b' (zl (x.2:Int)).length d') ?_
  rw [World.cell?_setCell_other (h:=ne _ _ (by decide))];exact h3
 all_goals rw [frozen_setCell,frozen_setCell];assumption
theorem ten12 {t:Nat} (h:20≤t):12≤10^t:=Nat.le_trans (show 12≤10^20 by decide) (Nat.pow_le_pow_right (by omega) h)
theorem BeOK.term {y:PP} {t N:Nat} (h:BeOK y t N) (i:Nat):(beT y (10^t) i).1≤10^(t+20)∧(beT y (10^t) i).2≤10^(t+20):=by
 have a:=(bT_wd (ten12 h.t0) h.h1 h.h2 h.h3 i).2
 have b:=bT_top (D:=10^t) (by have:=ten12 h.t0;omega) h.h1 i
 have c:10^t+2≤10^(t+20):=by
  rw [Nat.pow_add]
  have:=ten12 h.t0
  have:10^t*2≤10^t*10^20:=Nat.mul_le_mul_left _ (by decide)
  omega
 omega
theorem BeOK.sum {y:PP} {t N:Nat} (h:BeOK y t N): ∀i,i≤12000000002→(beS y (10^t) i).1≤10^(t+20)∧(beS y (10^t) i).2≤10^(t+20):=by
 have hb: ∀i,(beS y (10^t) i).2≤(i+1)*(10^t+2):=by
  intro i
  induction i with
  |zero=>
   show (beT y (10^t) 0).2≤_
   have b:=bT_top (D:=10^t) (by have:=ten12 h.t0;omega) h.h1 0
   omega
  |succ i ih=>
   show (beS y (10^t) i).2+(beT y (10^t) (i+1)).2≤_
   have b:=bT_top (D:=10^t) (by have:=ten12 h.t0;omega) h.h1 (i+1)
   rw [Nat.succ_mul (i+1)]
   omega
 intro i hi
 have a:=(bS_wd (ten12 h.t0) h.h1 h.h2 h.h3 i).2.1
 have b:=hb i
 have c:(i+1)*(10^t+2)≤10^(t+20):=by
  have d:=ten12 h.t0
  have e:(i+1)*(10^t+2)≤12000000003*(10^t*2):=Nat.mul_le_mul (by omega) (by omega)
  have f:12000000003*(10^t*2)=10^t*24000000006:=by rw [Nat.mul_comm (10^t) 2,←Nat.mul_assoc,Nat.mul_comm]
  have g:10^t*24000000006≤10^t*10^20:=Nat.mul_le_mul_left _ (by decide)
  rw [Nat.pow_add]
  omega
 omega
end Go.Ulp
namespace Go.Proofs.YtehhegbkahnhgaaDoor
open Go.RowKit Go.Ulp
set_option maxHeartbeats 4000000
set_option maxRecDepth 100000
end Go.Proofs.YtehhegbkahnhgaaDoor
