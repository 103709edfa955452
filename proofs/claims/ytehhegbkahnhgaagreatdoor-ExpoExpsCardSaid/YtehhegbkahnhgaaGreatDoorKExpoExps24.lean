/- ExpoExps: what the proof leans on, part 24 (Sf1 Sf2). -/
import Derived.Test.YtehhegbkahnhgaaGreatDoorKExpoExps23
set_option linter.unusedVariables false
set_option linter.unusedSimpArgs false
namespace Go.Ulp
open Go.RowKit
structure BeOK (y:PP) (t N:Nat):Prop where
 t0:20≤t
 t1:t≤3000000000
 h1:y.2≤10^t
 h2:y.1≤y.2
 h3:y.2≤y.1+1
 n1:1≤N
 n2:N≤12000000002
 e1:(beT y (10^t) N).2≤2
 e2: ∀i,i<N→ ¬(beT y (10^t) i).2≤2
theorem BV.lo {tb ti:TypeId} {w:World} {g:Nat} {x:PP} (h:BV tb ti w g x): ∃a c,w.cell? ⟨g,0,none⟩=some (.bool false)∧w.cell? ⟨g,1,none⟩=some (.slice a (zl (x.1:Int)).length c)∧ZD ti w (x.1:Int) (.agg #[.bool false,.slice a (zl (x.1:Int)).length c]):=by
 obtain ⟨a,c,b,d,⟨⟨h0,h1,h2,h3⟩,-⟩,n1,n2⟩:=h;exact ⟨a,c,h0,h1,ZD.ofN n1⟩
theorem BV.hi {tb ti:TypeId} {w:World} {g:Nat} {x:PP} (h:BV tb ti w g x): ∃a c,w.cell? ⟨g,2,none⟩=some (.bool false)∧w.cell? ⟨g,3,none⟩=some (.slice a (zl (x.2:Int)).length c)∧ZD ti w (x.2:Int) (.agg #[.bool false,.slice a (zl (x.2:Int)).length c]):=by
 obtain ⟨a,c,b,d,⟨⟨h0,h1,h2,h3⟩,-⟩,n1,n2⟩:=h;exact ⟨b,d,h2,h3,ZD.ofN n2⟩
theorem BV.all {tb ti:TypeId} {w:World} {g:Nat} {x:PP} (h:BV tb ti w g x): ∃a c b d,(w.cell? ⟨g,0,none⟩=some (.bool false)∧w.cell? ⟨g,1,none⟩=some (.slice a (zl (x.1:Int)).length c)∧w.cell? ⟨g,2,none⟩=some (.bool false)∧w.cell? ⟨g,3,none⟩=some (.slice b (zl (x.2:Int)).length d))∧PZ ti w x (.agg #[.bool false,.slice a (zl (x.1:Int)).length c,.bool false,.slice b (zl (x.2:Int)).length d]):=by
 obtain ⟨a,c,b,d,⟨h0,-⟩,n1,n2⟩:=h;exact ⟨a,c,b,d,h0,PZ.mk n1 n2⟩
theorem BV.bc {tb ti:TypeId} {w:World} {g:Nat} {x:PP} (h:BV tb ti w g x): ∃n0 s0 n1 s1,BC tb w g n0 s0 n1 s1:=by
 obtain ⟨a,c,b,d,h1,-⟩:=h;exact ⟨_,_,_,_,h1⟩
theorem BC.set1 {tb:TypeId} {w:World} {g:Nat} {n0 n1:Bool} {s0 s1:Value} (h:BC tb w g n0 s0 n1 s1) (a:Addr) (u:Value) (hk:g≠a.block):BC tb (w.setCell a u) g n0 s0 n1 s1:=by
 obtain ⟨⟨h0,h1,h2,h3⟩,f0,f1,f2,f3,s⟩:=h
 have ne: ∀o:Nat,a≠(⟨g,o,none⟩:Addr):=fun o e=>hk (by rw [e])
 refine ⟨⟨?_,?_,?_,?_⟩,?_,?_,?_,?_,s.setCell _ _⟩
 ·rw [World.cell?_setCell_other (h:=ne _)];exact h0
 ·rw [World.cell?_setCell_other (h:=ne _)];exact h1
 ·rw [World.cell?_setCell_other (h:=ne _)];exact h2
 ·rw [World.cell?_setCell_other (h:=ne _)];exact h3
 ·rw [frozen_setCell];exact f0
 ·rw [frozen_setCell];exact f1
 ·rw [frozen_setCell];exact f2
 ·rw [frozen_setCell];exact f3
theorem BV.put_hi {tb ti:TypeId} {w:World} {g:Nat} {x:PP} {z:Nat} {b:Option Addr} {d:Nat} (h:BV tb ti w g x) (hne:tb≠ti) (n:Nz ti w b d (zl (z:Int))):BV tb ti ((w.setCell ⟨g,2,none⟩ (.bool false)).setCell ⟨g,3,none⟩ (.slice b (zl (z:Int)).length d)) g (x.1,z):=by
 obtain ⟨a,c,b',d',⟨⟨h0,h1,h2,h3⟩,f0,f1,f2,f3,s⟩,n1,n2⟩:=h
 have ne: ∀i j:Nat,i≠j→(⟨g,i,none⟩:Addr)≠⟨g,j,none⟩:=fun i j hij e=>hij (by injection e)
 refine ⟨a,c,b,d,⟨⟨?_,?_,?_,?_⟩,?_,?_,?_,?_,(s.setCell _ _).setCell _ _⟩,(n1.setCell s hne _ _).setCell (s.setCell _ _) hne _ _,(n.setCell s hne _ _).setCell (s.setCell _ _) hne _ _⟩
 ·rw [World.cell?_setCell_other (h:=ne _ _ (by decide)),World.cell?_setCell_other (h:=ne _ _ (by decide))];exact h0
 ·rw [World.cell?_setCell_other (h:=ne _ _ (by decide)),World.cell?_setCell_other (h:=ne _ _ (by decide))];exact h1
 ·rw [World.cell?_setCell_other (h:=ne _ _ (by decide))]
  exact World.cell?_setCell_same _ _ _ h2
 ·refine World.cell?_setCell_same _ _ _ (u:=.slice b' (zl (x.2:Int)).length d') ?_
  rw [World.cell?_setCell_other (h:=ne _ _ (by decide))];exact h3
 all_goals rw [frozen_setCell,frozen_setCell];assumption
theorem ten12 {t:Nat} (h:20≤t):12≤10^t:=Nat.le_trans (show 12≤10^20 by decide) (Nat.pow_le_pow_right (by omega) h)
theorem beOK_ex (y:PP) (t:Nat) (t0:20≤t) (t1:t≤3000000000) (h1:y.2≤10^t) (h2:y.1≤y.2) (h3:y.2≤y.1+1): ∃N,BeOK y t N:=by
 obtain ⟨n,a,b,c,d⟩:=bT_end (by have:=ten12 t0;omega) h1 (4*t) (by rw [Nat.pow_mul];exact Nat.pow_le_pow_left (by omega) t)
 exact ⟨n,t0,t1,h1,h2,h3,a,by omega,c,d⟩
theorem BeOK.term {y:PP} {t N:Nat} (h:BeOK y t N) (i:Nat):(beT y (10^t) i).1≤10^(t+20)∧(beT y (10^t) i).2≤10^(t+20):=by
 have a:=(bT_wd (ten12 h.t0) h.h1 h.h2 h.h3 i).2
 have b:=bT_top (D:=10^t) (by have:=ten12 h.t0;omega) h.h1 i
 have c:10^t+2≤10^(t+20):=by
  rw [Nat.pow_add]
  have:=ten12 h.t0
  have:10^t*2≤10^t*10^20:=Nat.mul_le_mul_left _ (by decide)
  omega
 omega
theorem BeOK.sum {y:PP} {t N:Nat} (h:BeOK y t N): ∀i,i≤12000000002→(beS y (10^t) i).1≤10^(t+20)∧(beS y (10^t) i).2≤10^(t+20):=by
 have hb: ∀i,(beS y (10^t) i).2≤(i+1)*(10^t+2):=by
  intro i
  induction i with
  |zero=>
   show (beT y (10^t) 0).2≤_
   have b:=bT_top (D:=10^t) (by have:=ten12 h.t0;omega) h.h1 0
   omega
  |succ i ih=>
   show (beS y (10^t) i).2+(beT y (10^t) (i+1)).2≤_
   have b:=bT_top (D:=10^t) (by have:=ten12 h.t0;omega) h.h1 (i+1)
   rw [Nat.succ_mul (i+1)]
   omega
 intro i hi
 have a:=(bS_wd (ten12 h.t0) h.h1 h.h2 h.h3 i).2.1
 have b:=hb i
 have c:(i+1)*(10^t+2)≤10^(t+20):=by
  have d:=ten12 h.t0
  have e:(i+1)*(10^t+2)≤12000000003*(10^t*2):=Nat.mul_le_mul (by omega) (by omega)
  have f:12000000003*(10^t*2)=10^t*24000000006:=by rw [Nat.mul_comm (10^t) 2,←Nat.mul_assoc,Nat.mul_comm]
  have g:10^t*24000000006≤10^t*10^20:=Nat.mul_le_mul_left _ (by decide)
  rw [Nat.pow_add]
  omega
 omega
end Go.Ulp
namespace Go.Proofs.YtehhegbkahnhgaaGreatDoor
open Go.RowKit Go.Ulp
set_option maxHeartbeats 4000000
set_option maxRecDepth 100000
theorem bothE_any (y:PP) (t N:Nat) (v:Value) (w:World) (hv:PZ 3 w y v) (hB:BeOK y t N):
 Calls Tryz.prog 100 #[v,.int .i64 (t:Int)] w (RetPZ 3 w (up9 (beS y (10^t) N))):=by
 obtain ⟨a0,c0,a1,c1,rfl,n0,n1⟩:=hv
 have ht:=hB.t1
 have TN:=hid (fun w=>zTenN t w (by omega))
 have zA:BV 63 3 ((w.alloc (.cells #[.bool false,.slice a0 (zl (y.1:Int)).length c0,.bool false,.slice a1 (zl (y.2:Int)).length c1] 63)).alloc (.cells #[.bool false,.slice none 0 0,.bool false,.slice none 0 0] 63)) w.heap.size y:=(BV.made rfl n0 n1).below (below_alloc _ _)
 have zR:BC 63 ((w.alloc (.cells #[.bool false,.slice a0 (zl (y.1:Int)).length c0,.bool false,.slice a1 (zl (y.2:Int)).length c1] 63)).alloc (.cells #[.bool false,.slice none 0 0,.bool false,.slice none 0 0] 63)) (w.heap.size+1) false (.slice none 0 0) false (.slice none 0 0):=BC.made (by simp)
 have yb0:Below w.heap.size w ((w.alloc (.cells #[.bool false,.slice a0 (zl (y.1:Int)).length c0,.bool false,.slice a1 (zl (y.2:Int)).length c1] 63)).alloc (.cells #[.bool false,.slice none 0 0,.bool false,.slice none 0 0] 63)):=by (repeat' first|(with_reducible first|assumption|apply bR|apply bA|apply bN|apply bD|apply bL|apply bS)|refine bT ?_ (by assumption)|go_size)
 have HB:=hid hB
 clear hB n0 n1
 obtain ⟨D,hD⟩: ∃D,D=10^t:=⟨_,rfl⟩
 rw [←hD] at TN ⊢
 have HD:=hid hD
 clear hD
 go_enter Tryz.func100,Tryz.ntmps100
 go_upto_region 1 with fail
 refine wp_worldZ (fun WW=>Below w.heap.size w WW∧BV 63 3 WW w.heap.size y∧BC 63 WW (w.heap.size+1) false (.slice none 0 0) false (.slice none 0 0)) ⟨yb0,zA,zR⟩ ?_
 clear zA zR yb0
 intro W1 ⟨yb1,zA,zR⟩
 go_upto_region 2 with (go_at_call 60;(with_reducible refine (TN.out _).mono ?_);rintro en w1 ⟨v1,rfl,⟨a5,c5,rfl,n5⟩,hb1⟩)
 have z5:=zv_made (tz:=47) n5 w1.heap.size rfl
 refine wp_worldZ (fun WW=>Below w.heap.size w WW∧BV 63 3 WW w.heap.size y∧BC 63 WW (w.heap.size+1) false (.slice none 0 0) false (.slice none 0 0)∧ZV 47 3 WW w1.heap.size (D:Int)) ⟨below_trans (below_trans yb1 hb1) (below_alloc _ _),(zA.below hb1).below (below_alloc _ _),(zR.below hb1).below (below_alloc _ _),z5⟩ ?_
 obtain ⟨g5,hg5⟩: ∃g,g=w1.heap.size:=⟨_,rfl⟩
 rw [←hg5]
 clear zA zR yb1 z5 n5 hb1 hg5
 intro W2 ⟨yb2,zA,zR,z5⟩
 obtain ⟨a6,c6,zl6,n6⟩:=z5
 obtain ⟨j0,j1,-⟩:=id zl6
 rw [zneg_nat] at j0
 have l5:=zl6.lt
 have ja0: ∀o,(W2.alloc o).cell? ⟨g5,0,none⟩=some (.bool false):=fun o=>((below_alloc W2 o).cell (p:=⟨g5,0,none⟩) l5).trans j0
 have ja1: ∀o,(W2.alloc o).cell? ⟨g5,1,none⟩=some (.slice a6 (zl (D:Int)).length c6):=fun o=>((below_alloc W2 o).cell (p:=⟨g5,1,none⟩) l5).trans j1
 have jb0: ∀o o',((W2.alloc o).alloc o').cell? ⟨g5,0,none⟩=some (.bool false):=fun o o'=>((below_trans (below_alloc W2 o) (below_alloc _ o')).cell (p:=⟨g5,0,none⟩) l5).trans j0
 have jb1: ∀o o',((W2.alloc o).alloc o').cell? ⟨g5,1,none⟩=some (.slice a6 (zl (D:Int)).length c6):=fun o o'=>((below_trans (below_alloc W2 o) (below_alloc _ o')).cell (p:=⟨g5,1,none⟩) l5).trans j1
 have FX:Below w.heap.size w ((W2.alloc (.cells #[.bool false,.slice a6 (zl (D:Int)).length c6,.bool false,.slice a6 (zl (D:Int)).length c6] 63)).alloc (.cells #[.bool false,.slice a6 (zl (D:Int)).length c6,.bool false,.slice a6 (zl (D:Int)).length c6] 63)).drew∧BV 63 3 ((W2.alloc (.cells #[.bool false,.slice a6 (zl (D:Int)).length c6,.bool false,.slice a6 (zl (D:Int)).length c6] 63)).alloc (.cells #[.bool false,.slice a6 (zl (D:Int)).length c6,.bool false,.slice a6 (zl (D:Int)).length c6] 63)).drew w.heap.size y∧BC 63 ((W2.alloc (.cells #[.bool false,.slice a6 (zl (D:Int)).length c6,.bool false,.slice a6 (zl (D:Int)).length c6] 63)).alloc (.cells #[.bool false,.slice a6 (zl (D:Int)).length c6,.bool false,.slice a6 (zl (D:Int)).length c6] 63)).drew (w.heap.size+1) false (.slice none 0 0) false (.slice none 0 0)∧BV 63 3 ((W2.alloc (.cells #[.bool false,.slice a6 (zl (D:Int)).length c6,.bool false,.slice a6 (zl (D:Int)).length c6] 63)).alloc (.cells #[.bool false,.slice a6 (zl (D:Int)).length c6,.bool false,.slice a6 (zl (D:Int)).length c6] 63)).drew W2.heap.size (D,D)∧BV 63 3 ((W2.alloc (.cells #[.bool false,.slice a6 (zl (D:Int)).length c6,.bool false,.slice a6 (zl (D:Int)).length c6] 63)).alloc (.cells #[.bool false,.slice a6 (zl (D:Int)).length c6,.bool false,.slice a6 (zl (D:Int)).length c6] 63)).drew (W2.heap.size+1) (D,D):=by
  have hbx:Below W2.heap.size W2 ((W2.alloc (.cells #[.bool false,.slice a6 (zl (D:Int)).length c6,.bool false,.slice a6 (zl (D:Int)).length c6] 63)).alloc (.cells #[.bool false,.slice a6 (zl (D:Int)).length c6,.bool false,.slice a6 (zl (D:Int)).length c6] 63)).drew:=Below.drew (below_trans (below_alloc _ _) (below_alloc _ _))
  exact ⟨below_trans yb2 hbx,zA.below hbx,zR.below hbx,(BV.made (x:=(D,D)) rfl n6 n6).below (Below.drew (below_alloc _ _)),(BV.made (x:=(D,D)) (by simp) (n6.below (below_alloc _ _)) (n6.below (below_alloc _ _))).below (Below.drew (Below.refl _ _))⟩
 have hlt:=zR.lt
 go_cut [6,7] (fun s6 s7 wx=> ∃g6 g7:Nat,s6=.pointer (some ⟨g6,0,none⟩)∧s7=.pointer (some ⟨g7,0,none⟩)∧g6≠g7∧w.heap.size+1<g6∧w.heap.size+1<g7∧Below w.heap.size w wx∧BV 63 3 wx w.heap.size y∧BC 63 wx (w.heap.size+1) false (.slice none 0 0) false (.slice none 0 0)∧BV 63 3 wx g6 (D,D)∧BV 63 3 wx g7 (D,D))
 case first=>as_aux_lemma=>
  have FY:=hid FX
  have HLT:=hid hlt
  clear zA zR zl6 n6 TN FX hlt l5 yb2 HB HD ht
  go_region
  ·go_wp2_with fail
   go_meet
   obtain ⟨fb,fA,fR,f6,f7⟩:=FY.out
   have hlt:=HLT.out
   exact ⟨_,_,rfl,rfl,by omega,by omega,by omega,fb,fA,fR,f6,f7⟩
  ·go_wp2_with fail
   go_meet
   obtain ⟨fb,fA,fR,f6,f7⟩:=FY.out
   have hlt:=HLT.out
   exact ⟨_,_,rfl,rfl,by omega,by omega,by omega,fb,fA,fR,f7,f6⟩
 case rest=>
  obtain ⟨g6,g7,rfl,rfl,hg67,hg6,hg7,yc,zA,zR,z6,z7⟩:=hcut
  clear FX ja0 ja1 jb0 jb1 j0 j1 zl6 n6 yb2 l5 hlt
  have hN:=HB.out.n2
  go_wp2_with fail
  go_loopw [8] (fun s8 wx=> ∃n n1:Nat,s8=.int .i64 (n1:Int)∧n1=n+1∧n≤N∧Below w.heap.size w wx∧BV 63 3 wx w.heap.size y∧BC 63 wx (w.heap.size+1) false (.slice none 0 0) false (.slice none 0 0)∧BV 63 3 wx g6 (beS y D n)∧BV 63 3 wx g7 (beT y D n)) (fun s8 _=>12000000004-(intOf s8).toNat)
  case atStart=>exact ⟨0,1,rfl,rfl,by omega,yc,zA,zR,z6,z7⟩
  case round=>
  obtain ⟨n,n1,rfl,hn1,hn,yr,yA,yR,y6,y7⟩:=hrel
  have HN1:=hid hn1
  clear hn1
  clear yc zA zR z6 z7
  obtain ⟨T,hT⟩: ∃T,T=beT y D n:=⟨_,rfl⟩
  obtain ⟨S,hS⟩: ∃S,S=beS y D n:=⟨_,rfl⟩
  rw [←hT] at y7
  rw [←hS] at y6
  have bT:=HB.out.term n
  have bS:=HB.out.sum n (by omega)
  have hE1:=HB.out.e1
  have hE2:=HB.out.e2 n
  rw [←HD.out,←hT] at bT
  rw [←HD.out,←hS] at bS
  rw [←HD.out] at hE1
  rw [←HD.out,←hT] at hE2
  obtain ⟨T1,T2⟩:=T
  obtain ⟨S1,S2⟩:=S
  simp only at bT bS hE2
  have HC1:T2≤2→n=N:=fun h=>by
   refine Nat.le_antisymm hn (Nat.le_of_not_lt fun h2=>hE2 h2 h)
  have HC2: ¬T2≤2→n<N:=fun h=>by
   refine Nat.lt_of_le_of_ne hn fun h2=>?_
   rw [h2] at hT
   rw [←hT] at hE1
   exact h hE1
  have HT:=hid hT
  have HS:=hid hS
  clear hE1 hE2 hT hS
  go_upto_region 4 with fail
  refine wp_region_grow 5 [21,22,23,24,25] [Fact.is (.pointer (some ⟨g7,2,none⟩)),Fact.z 3 (T2:Int),Fact.z 3 (2),Fact.is (.int .i64 (cmpI (T2:Int) 2)),Fact.is (.bool (decide (0<cmpI (T2:Int) 2)))] (by kernel_rfl) (by kernel_rfl) ⟨?o0,?o1,?o2,?o3,?o4,trivial⟩ ?after
  case o0=>(refine oQ rfl ?_;intro ρ w1 R hcon hfn hρ hb hp hR;have e7:ρ (.tmp 7)=.pointer (some ⟨g7,0,none⟩):=hρ.tmp 7 rfl;clear hρ hp;unfold OpRun;go_simp;exact hR _ _ (Below.refl _ _) rfl)
  case o1=>(refine oQ rfl ?_;intro ρ w1 R hcon hfn hρ hb hp hR;have e21:ρ (.tmp 21)=_:=hp 0 21 rfl rfl;obtain ⟨qa,qc,q0,q1,qz⟩:=(y7.below hb).hi;clear hρ hp;unfold OpRun;go_simp;exact hR _ _ (Below.refl _ _) qz)
  case o2=>(refine oQ rfl ?_;intro ρ w1 R hcon hfn hρ hb hp hR;clear hρ hp;unfold OpRun;go_simp;(refine (zND _ (by omega) (by omega) _).mono ?_;rintro e wn ⟨v9,rfl,hz9,hbn⟩;exact ⟨_,rfl,hR _ _ hbn hz9⟩))
  case o3=>(refine oQ rfl ?_;intro ρ w1 R hcon hfn hρ hb hp hR;have f22:=hp 1 22 rfl rfl;have f23:=hp 2 23 rfl rfl;clear hρ hp;unfold OpRun;go_simp;(refine (zcmpD _ _ _ _ _ f22 f23).mono ?_;rintro e wn ⟨rfl,hbn⟩;exact ⟨_,rfl,hR _ _ hbn rfl⟩))
  case o4=>(refine oQ rfl ?_;intro ρ w1 R hcon hfn hρ hb hp hR;have e24:ρ (.tmp 24)=_:=hp 3 24 rfl rfl;clear hρ hp;unfold OpRun;go_simp;exact hR _ _ (Below.refl _ _) rfl)
  case after=>
   intro u wn hb hf
   have e25:u 25=_:=hf 4 25 (by omega) rfl
   clear hf
   simp only [putAll,Act.put,List.setIfInBounds_toArray,List.set_cons_zero,List.set_cons_succ,List.drop_succ_cons,List.drop_zero,List.drop_nil]
   rw [e25]
   replace yr:=below_trans yr hb
   replace yA:=yA.below hb
   replace yR:=yR.below hb
   replace y6:=y6.below hb
   replace y7:=y7.below hb
   clear hb
   by_cases h2:T2≤2
   ·have hd:decide (0<cmpI (T2:Int) 2)=false:=by
     unfold cmpI
     by_cases h3:(T2:Int)<2
     ·rw [if_pos h3];rfl
     ·rw [if_neg h3,if_neg (by omega)];rfl
    rw [hd]
    have hnN:=HC1 h2
    subst hnN
    clear HC1 HC2 hd h2 hn hN
    obtain ⟨X,hX⟩: ∃X,X=S2+9:=⟨_,rfl⟩
    have ZA9:=hid (show ∀v u w,ZD 3 w (S2:Int) v→ZD 3 w 9 u→Calls Tryz.prog 76 #[v,u] w (RetZD 3 w (X:Int)) from fun v u w h k=>by
     rw [hX];exact zaddN v u S2 9 w h k (by have:=zl_le10 bS.2;omega) (by decide))
    have e9:up9 (beS y D n)=(S1,X):=by rw [←HS.out,hX];rfl
    have E9:=hid e9
    have HX:=hid hX
    clear hX e9
    go_upto_region 11 with fail
    refine wp_region_grow 5 [63,64,65,66,67] [Fact.is (.pointer (some ⟨g6,2,none⟩)),Fact.z 3 (S2:Int),Fact.z 3 (9),Fact.z 3 (X:Int),Fact.is (.pointer (some ⟨g6,2,none⟩))] (by kernel_rfl) (by kernel_rfl) ⟨?o0,?o1,?o2,?o3,?o4,trivial⟩ ?after
    case o0=>(refine oQ rfl ?_;intro ρ w1 R hcon hfn hρ hb hp hR;have e6:ρ (.tmp 6)=.pointer (some ⟨g6,0,none⟩):=hρ.tmp 6 rfl;clear hρ hp;unfold OpRun;go_simp;exact hR _ _ (Below.refl _ _) rfl)
    case o1=>(refine oQ rfl ?_;intro ρ w1 R hcon hfn hρ hb hp hR;have e63:ρ (.tmp 63)=_:=hp 0 63 rfl rfl;obtain ⟨qa,qc,q0,q1,qz⟩:=(y6.below hb).hi;clear hρ hp;unfold OpRun;go_simp;exact hR _ _ (Below.refl _ _) qz)
    case o2=>(refine oQ rfl ?_;intro ρ w1 R hcon hfn hρ hb hp hR;clear hρ hp;unfold OpRun;go_simp;(refine (zND _ (by omega) (by omega) _).mono ?_;rintro e wn ⟨v9,rfl,hz9,hbn⟩;exact ⟨_,rfl,hR _ _ hbn hz9⟩))
    case o3=>(refine oQ rfl ?_;intro ρ w1 R hcon hfn hρ hb hp hR;have f64:=hp 1 64 rfl rfl;have f65:=hp 2 65 rfl rfl;clear hρ hp;unfold OpRun;go_simp;(refine (ZA9.out _ _ _ f64 f65).mono ?_;rintro e wn ⟨v9,rfl,hv9,hbn⟩;exact ⟨_,rfl,hR _ _ hbn hv9⟩))
    case o4=>(refine oQ rfl ?_;intro ρ w1 R hcon hfn hρ hb hp hR;have e6:ρ (.tmp 6)=.pointer (some ⟨g6,0,none⟩):=hρ.tmp 6 rfl;clear hρ hp;unfold OpRun;go_simp;exact hR _ _ (Below.refl _ _) rfl)
    case after=>
     intro u wn hb hf
     have f66:=hf 3 66 (by omega) rfl
     have e67:u 67=_:=hf 4 67 (by omega) rfl
     clear hf
     simp only [putAll,Act.put,List.setIfInBounds_toArray,List.set_cons_zero,List.set_cons_succ,List.drop_succ_cons,List.drop_zero,List.drop_nil]
     rw [e67]
     obtain ⟨a66,c66,e66,n66⟩:=ZD.toN f66
     rw [e66]
     clear e66
     replace yr:=below_trans yr hb
     replace yR:=yR.below hb
     replace y6:=y6.below hb
     clear hb y7 yA
     have z6:=y6
     obtain ⟨a6,c6,b6,d6,⟨⟨i0,i1,i2,i3⟩,f0,f1,f2,f3,s6⟩,m1,m2⟩:=y6
     go_upto_region 12 with fail
     refine wp_worldZ (fun WW=>Below w.heap.size w WW∧BC 63 WW (w.heap.size+1) false (.slice none 0 0) false (.slice none 0 0)∧BV 63 3 WW g6 (S1,X)) ⟨(yr.setCell (p:=⟨g6,2,none⟩) (by show w.heap.size≤g6;omega) _).setCell (p:=⟨g6,3,none⟩) (by show w.heap.size≤g6;omega) _,(yR.set1 _ _ (by show w.heap.size+1≠g6;omega)).set1 _ _ (by show w.heap.size+1≠g6;omega),BV.put_hi z6 (by decide) n66⟩ ?_
     clear yr yR z6 i0 i1 i2 i3 f0 f1 f2 f3 s6 m1 m2 n66
     intro W5 ⟨yr,yR,y6⟩
     obtain ⟨a6,c6,b6,d6,⟨⟨i0,i1,i2,i3⟩,-⟩,m1,m2⟩:=y6
     obtain ⟨⟨k0,k1,k2,k3⟩,f0,f1,f2,f3,hs2⟩:=id yR
     go_wp2_with fail
     refine bodyPost_ret (by simp [results,Tryz.results100,go_sem,k0,k1,k2,k3];try rfl) rfl ?_
     rw [E9.out]
     exact ⟨_,rfl,PZ.mk (x:=(S1,X)) (m1.pu4 hs2 (by decide) _ _ _ _) (m2.pu4 hs2 (by decide) _ _ _ _),below_pu4 yr (by omega) _ _ _ _⟩
   ·have hd:decide (0<cmpI (T2:Int) 2)=true:=by
     unfold cmpI
     rw [if_neg (by omega),if_pos (by omega)];rfl
    rw [hd]
    have hnN:=HC2 h2
    clear HC1 HC2 hd h2 hn
    have hy1:y.2≤10^(t+20):=Nat.le_trans HB.out.h1 (Nat.pow_le_pow_right (by omega) (by omega))
    have hy0:y.1≤10^(t+20):=Nat.le_trans HB.out.h2 hy1
    obtain ⟨⟨M1,M2⟩,hM⟩: ∃M,M=bMul (T1,T2) y D:=⟨_,rfl⟩
    have BM:=hid (show ∀v u w,PZ 3 w (T1,T2) v→PZ 3 w y u→Calls Tryz.prog 98 #[v,u,.int .i64 (t:Int)] w (RetPZ 3 w (M1,M2)) from fun v u w h k=>by
     rw [hM,HD.out];exact bothMul_any (T1,T2) y t (t+20) v u w h k (by omega) (by omega) bT.1 bT.2 hy0 hy1)
    have hM1:M1≤10^(2*t+41):=by
     have e:M1=T1*y.1/D:=congrArg Prod.fst hM
     rw [e]
     exact Nat.le_trans (Nat.div_le_self _ _) (Nat.le_trans (mul10 bT.1 hy0) (Nat.pow_le_pow_right (by omega) (by omega)))
    have hM2:M2≤10^(2*t+41):=by
     have e:M2=T2*y.2/D+1:=congrArg Prod.snd hM
     rw [e]
     refine Nat.le_trans (Nat.add_le_add_right (Nat.le_trans (Nat.div_le_self _ _) (mul10 bT.2 hy1)) 1) ?_
     rw [show 2*t+41=t+20+(t+20)+1 by omega,Nat.pow_succ]
     have:=Nat.pow_pos (n:=t+20+(t+20)) (show 0<10 by omega)
     omega
    have lM1:(zl (M1:Int)).length≤4000000000:=by have:=zl_le10 hM1;omega
    have lM2:(zl (M2:Int)).length≤4000000000:=by have:=zl_le10 hM2;omega
    have ln1:(zl (n1:Int)).length≤1000000000:=by
     have:=zl_le10 (x:=n1) (E:=20) (Nat.le_trans (show n1≤12000000003 by have:=HN1.out;omega) (by decide))
     omega
    have DV1:=hid (fun v u w h k=>zdivN v u M1 n1 w h k lM1 ln1 (by have:=HN1.out;omega))
    have DV2:=hid (fun v u w h k=>zdivN v u M2 n1 w h k lM2 ln1 (by have:=HN1.out;omega))
    have lQ2:(zl ((M2/n1:Nat):Int)).length≤4000000000:=by have:=zl_le10 (Nat.le_trans (Nat.div_le_self M2 n1) hM2);omega
    have UP:=hid (fun v w h=>up1_any v (M2/n1) w h lQ2)
    have bT3:=HB.out.term (n+1)
    rw [←HD.out] at bT3
    have eT3:beT y D (n+1)=(M1/n1,M2/n1+1):=by
     show bOv (bMul (beT y D n) y D) (n+1)=_
     rw [←HT.out,←hM,←HN1.out];rfl
    have eS3:beS y D (n+1)=(S1+M1/n1,S2+(M2/n1+1)):=by
     show plP (beS y D n) (beT y D (n+1))=_
     rw [←HS.out,eT3];rfl
    rw [eT3] at bT3
    simp only at bT3
    obtain ⟨U,hU⟩: ∃U,U=M2/n1+1:=⟨_,rfl⟩
    rw [←hU] at UP bT3 eT3 eS3
    generalize M1%n1=R1 at *
    generalize M2%n1=R2 at *
    generalize M1/n1=Q1 at *
    generalize M2/n1=Q2 at *
    have lS1:(zl (S1:Int)).length≤4000000000:=by have:=zl_le10 bS.1;omega
    have lS2:(zl (S2:Int)).length≤4000000000:=by have:=zl_le10 bS.2;omega
    have lQ1:(zl (Q1:Int)).length≤4000000000:=by have:=zl_le10 bT3.1;omega
    have lU:(zl (U:Int)).length≤4000000000:=by have:=zl_le10 bT3.2;omega
    obtain ⟨V1,hV1⟩: ∃V,V=S1+Q1:=⟨_,rfl⟩
    obtain ⟨V2,hV2⟩: ∃V,V=S2+U:=⟨_,rfl⟩
    have AD1:=hid (fun v u w h k=>zaddN v u S1 Q1 w h k lS1 lQ1)
    have AD2:=hid (fun v u w h k=>zaddN v u S2 U w h k lS2 lU)
    rw [←hV1] at AD1 eS3
    rw [←hV2] at AD2 eS3
    have ET:=hid eT3
    have ES:=hid eS3
    have hn1b:n1≤12000000003:=by have:=HN1.out;omega
    clear lS1 lS2 lQ1 lU hV1 hV2 bT3 eT3 eS3 hU lQ2 lM1 lM2 ln1 hM1 hM2 hM hy0 hy1 bT bS HT HS
    obtain ⟨a7,c7,b7,d7,⟨i0,i1,i2,i3⟩,pz7⟩:=y7.all
    obtain ⟨aA,cA,bA,dA,⟨j0,j1,j2,j3⟩,pzA⟩:=yA.all
    go_upto_region 7 with (go_at_call 98;(with_reducible refine (BM.out _ _ _ pz7 pzA).mono ?_);rintro en w8 ⟨v8,rfl,⟨a8,c8,b8,d8,rfl,m8,m9⟩,hb8⟩;obtain ⟨x0,x1,x2,x3,⟨⟨k0,k1,k2,k3⟩,f0,f1,f2,f3,s7⟩⟩:=(y7.below hb8).bc)
    refine wp_worldZ (fun WW=>Below w.heap.size w WW∧BV 63 3 WW w.heap.size y∧BC 63 WW (w.heap.size+1) false (.slice none 0 0) false (.slice none 0 0)∧BV 63 3 WW g6 (S1,S2)∧BV 63 3 WW g7 (M1,M2)) ⟨below_pu4 (below_trans yr hb8) (by omega) _ _ _ _,(yA.below hb8).far (by omega) s7 (by decide) _ _ _ _,(yR.below hb8).far (by omega) _ _ _ _,(y6.below hb8).far hg67 s7 (by decide) _ _ _ _,BC.put_bv (x:=(M1,M2)) ⟨⟨k0,k1,k2,k3⟩,f0,f1,f2,f3,s7⟩ (by decide) m8 m9⟩ ?_
    clear yr yA yR y6 y7 i0 i1 i2 i3 j0 j1 j2 j3 k0 k1 k2 k3 f0 f1 f2 f3 s7 pz7 pzA m8 m9 hb8 BM
    intro W7 ⟨yr,yA,yR,y6,y7⟩
    refine wp_region_growL 10 7 [33,34,35,36,37,32,38,39,9,10] [Fact.is (.pointer (some ⟨g7,0,none⟩)),Fact.z 3 (M1:Int),Fact.is (.int .i64 (n1:Int)),Fact.z 3 ((n1:Int)),Fact.z2 3 (Q1:Int) (R1:Int),Fact.z2 3 (Q1:Int) (R1:Int),Fact.z 3 (Q1:Int),Fact.z 3 (R1:Int),Fact.z0 W7.heap.size 47,Fact.z0 W7.heap.size 47] [8,9] (by kernel_rfl) (by kernel_rfl) rfl ⟨?o0,?o1,?o2,?o3,?o4,?o5,?o6,?o7,?o8,?o9,trivial⟩ ?late (fun d _ _ _ _ h=>by cases d<;>exact h) ?after
    case o0=>(refine oQF rfl ?_;intro ρ w1 R hcon hfn hρ hb hp hR;have e7:ρ (.tmp 7)=.pointer (some ⟨g7,0,none⟩):=hρ.tmp 7 rfl;replace hR:=fun v w2 h1 h2=>hR v w2 h1 h2 (fun h=>absurd h (by decide));clear hρ hp;unfold OpRun;go_simp;exact hR _ _ (Below.refl _ _) rfl)
    case o1=>(refine oQF rfl ?_;intro ρ w1 R hcon hfn hρ hb hp hR;have e33:ρ (.tmp 33)=_:=hp 0 33 rfl rfl;obtain ⟨qa,qc,q0,q1,qz⟩:=(y7.below hb).lo;replace hR:=fun v w2 h1 h2=>hR v w2 h1 h2 (fun h=>absurd h (by decide));clear hρ hp;unfold OpRun;go_simp;exact hR _ _ (Below.refl _ _) qz)
    case o2=>(refine oQF rfl ?_;intro ρ w1 R hcon hfn hρ hb hp hR;have e8:ρ (.tmp 8)=.int .i64 (n1:Int):=hρ.tmp 8 rfl;replace hR:=fun v w2 h1 h2=>hR v w2 h1 h2 (fun h=>absurd h (by decide));clear hρ hp;unfold OpRun;go_simp;exact hR _ _ (Below.refl _ _) rfl)
    case o3=>(refine oQF rfl ?_;intro ρ w1 R hcon hfn hρ hb hp hR;have e35:ρ (.tmp 35)=_:=hp 2 35 rfl rfl;replace hR:=fun v w2 h1 h2=>hR v w2 h1 h2 (fun h=>absurd h (by decide));clear hρ hp;unfold OpRun;go_simp;(refine (zND _ (by omega) (by omega) _).mono ?_;rintro e wn ⟨v9,rfl,hz9,hbn⟩;exact ⟨_,rfl,hR _ _ hbn hz9⟩))
    case o4=>(refine oQF rfl ?_;intro ρ w1 R hcon hfn hρ hb hp hR;have f34:=hp 1 34 rfl rfl;have f36:=hp 3 36 rfl rfl;replace hR:=fun v w2 h1 h2=>hR v w2 h1 h2 (fun h=>absurd h (by decide));clear hρ hp;unfold OpRun;go_simp;(refine (DV1.out _ _ _ f34 f36).mono ?_;rintro e wn ⟨v9,rfl,hv9,hbn⟩;exact ⟨_,rfl,hR _ _ hbn hv9⟩))
    case o5=>(refine oQF rfl ?_;intro ρ w1 R hcon hfn hρ hb hp hR;have f37:=hp 4 37 rfl rfl;replace hR:=fun v w2 h1 h2=>hR v w2 h1 h2 (fun h=>absurd h (by decide));clear hρ hp;unfold OpRun;go_simp;exact hR _ _ (Below.refl _ _) f37)
    case o6=>(refine oQF rfl ?_;intro ρ w1 R hcon hfn hρ hb hp hR;have f32:=hp 5 32 rfl rfl;obtain ⟨a97,b97,e97,h97,k97⟩:=ZD2.parts f32;replace hR:=fun v w2 h1 h2=>hR v w2 h1 h2 (fun h=>absurd h (by decide));clear hρ hp;unfold OpRun;go_simp;exact hR _ _ (Below.refl _ _) h97)
    case o7=>(refine oQF rfl ?_;intro ρ w1 R hcon hfn hρ hb hp hR;have f32:=hp 5 32 rfl rfl;obtain ⟨a97,b97,e97,h97,k97⟩:=ZD2.parts f32;replace hR:=fun v w2 h1 h2=>hR v w2 h1 h2 (fun h=>absurd h (by decide));clear hρ hp;unfold OpRun;go_simp;exact hR _ _ (Below.refl _ _) k97)
    case o8=>(refine oQF rfl ?_;intro ρ w1 R hcon hfn hρ hb hp hR;clear hρ hp;unfold OpRun;go_simp;exact hR _ _ (below_alloc _ _) ⟨_,rfl,hb.size,ZL.made rfl⟩ (fun _=>⟨_,rfl,Nat.le_refl _,by simp⟩))
    case o9=>(refine oQF rfl ?_;intro ρ w1 R hcon hfn hρ hb hp hR;clear hρ hp;unfold OpRun;go_simp;exact hR _ _ (below_alloc _ _) ⟨_,rfl,hb.size,ZL.made rfl⟩ (fun _=>⟨_,rfl,Nat.le_refl _,by simp⟩))
    case late=>
     intro o ho
     simp only [List.getElem?_cons_succ,List.getElem?_cons_zero,Option.some.injEq] at ho
     subst ho
     refine ⟨rfl,?_⟩
     intro ρ w1 hρ hb hp
     have f32:=hp 5 32 rfl rfl
     obtain ⟨a97,b97,e97,h97,k97⟩:=ZD2.parts f32
     refine ⟨_,?_,k97⟩
     intro w2
     have hcon:=hρ.con
     go_simp
     try rfl
    case after=>
     intro u wn hb hf hd
     have f38:=hf 6 38 (by omega) rfl
     have f39:=hf 7 39 (by omega) rfl
     have f9:=hf 8 9 (by omega) rfl
     have f10:=hf 9 10 (by omega) rfl
     have d9_10:u 9≠u 10:=hd 8 9 9 10 (by omega) (by omega) (by omega) rfl rfl rfl rfl
     clear hf hd
     simp only [putAll,Act.put,List.setIfInBounds_toArray,List.set_cons_zero,List.set_cons_succ,List.drop_succ_cons,List.drop_zero,List.drop_nil]
     obtain ⟨xa1,xc1,xe1,xn1⟩:=f38
     obtain ⟨xa2,xc2,xe2,xn2⟩:=f39
     obtain ⟨gv9,eg1,hg1,zz1⟩:=f9
     obtain ⟨gv10,eg2,hg2,zz2⟩:=f10
     have gne:gv9≠gv10:=by intro h;apply d9_10;rw [eg1,eg2,h]
     rw [xe1,xe2,eg1,eg2]
     clear xe1 xe2 eg1 eg2 d9_10
     have zst:=zv_store2 (by decide) hb hg1 hg2 gne zz1 zz2 xn1 xn2
     obtain ⟨k0,k1,kf0,kf1,-⟩:=id zz1
     obtain ⟨l0,l1,lf0,lf1,-⟩:=id zz2
     go_upto_region 8 with fail
     clear k0 k1 kf0 kf1 l0 l1 lf0 lf1 zz1 zz2 xn1 xn2 hb
     refine wp_worldZ (fun WW=>Below _ _ WW∧ZV _ _ WW _ _∧ZV _ _ WW _ _) zst ?_
     clear zst
     intro W8 ⟨y8,z9,z10⟩
     replace yr:=below_trans yr y8
     replace yA:=yA.below y8
     replace yR:=yR.below y8
     replace y6:=y6.below y8
     replace y7:=y7.below y8
     clear y8 hg1 hg2 gne z10 DV1
     refine wp_region_growL 10 7 [41,42,43,44,45,40,46,47,11,12] [Fact.is (.pointer (some ⟨g7,2,none⟩)),Fact.z 3 (M2:Int),Fact.is (.int .i64 (n1:Int)),Fact.z 3 ((n1:Int)),Fact.z2 3 (Q2:Int) (R2:Int),Fact.z2 3 (Q2:Int) (R2:Int),Fact.z 3 (Q2:Int),Fact.z 3 (R2:Int),Fact.z0 W8.heap.size 47,Fact.z0 W8.heap.size 47] [8,9] (by kernel_rfl) (by kernel_rfl) rfl ⟨?o0,?o1,?o2,?o3,?o4,?o5,?o6,?o7,?o8,?o9,trivial⟩ ?late (fun d _ _ _ _ h=>by cases d<;>exact h) ?after
     case o0=>(refine oQF rfl ?_;intro ρ w1 R hcon hfn hρ hb hp hR;have e7:ρ (.tmp 7)=.pointer (some ⟨g7,0,none⟩):=hρ.tmp 7 rfl;replace hR:=fun v w2 h1 h2=>hR v w2 h1 h2 (fun h=>absurd h (by decide));clear hρ hp;unfold OpRun;go_simp;exact hR _ _ (Below.refl _ _) rfl)
     case o1=>(refine oQF rfl ?_;intro ρ w1 R hcon hfn hρ hb hp hR;have e41:ρ (.tmp 41)=_:=hp 0 41 rfl rfl;obtain ⟨qa,qc,q0,q1,qz⟩:=(y7.below hb).hi;replace hR:=fun v w2 h1 h2=>hR v w2 h1 h2 (fun h=>absurd h (by decide));clear hρ hp;unfold OpRun;go_simp;exact hR _ _ (Below.refl _ _) qz)
     case o2=>(refine oQF rfl ?_;intro ρ w1 R hcon hfn hρ hb hp hR;have e8:ρ (.tmp 8)=.int .i64 (n1:Int):=hρ.tmp 8 rfl;replace hR:=fun v w2 h1 h2=>hR v w2 h1 h2 (fun h=>absurd h (by decide));clear hρ hp;unfold OpRun;go_simp;exact hR _ _ (Below.refl _ _) rfl)
     case o3=>(refine oQF rfl ?_;intro ρ w1 R hcon hfn hρ hb hp hR;have e43:ρ (.tmp 43)=_:=hp 2 43 rfl rfl;replace hR:=fun v w2 h1 h2=>hR v w2 h1 h2 (fun h=>absurd h (by decide));clear hρ hp;unfold OpRun;go_simp;(refine (zND _ (by omega) (by omega) _).mono ?_;rintro e wn ⟨v9,rfl,hz9,hbn⟩;exact ⟨_,rfl,hR _ _ hbn hz9⟩))
     case o4=>(refine oQF rfl ?_;intro ρ w1 R hcon hfn hρ hb hp hR;have f42:=hp 1 42 rfl rfl;have f44:=hp 3 44 rfl rfl;replace hR:=fun v w2 h1 h2=>hR v w2 h1 h2 (fun h=>absurd h (by decide));clear hρ hp;unfold OpRun;go_simp;(refine (DV2.out _ _ _ f42 f44).mono ?_;rintro e wn ⟨v9,rfl,hv9,hbn⟩;exact ⟨_,rfl,hR _ _ hbn hv9⟩))
     case o5=>(refine oQF rfl ?_;intro ρ w1 R hcon hfn hρ hb hp hR;have f45:=hp 4 45 rfl rfl;replace hR:=fun v w2 h1 h2=>hR v w2 h1 h2 (fun h=>absurd h (by decide));clear hρ hp;unfold OpRun;go_simp;exact hR _ _ (Below.refl _ _) f45)
     case o6=>(refine oQF rfl ?_;intro ρ w1 R hcon hfn hρ hb hp hR;have f40:=hp 5 40 rfl rfl;obtain ⟨a97,b97,e97,h97,k97⟩:=ZD2.parts f40;replace hR:=fun v w2 h1 h2=>hR v w2 h1 h2 (fun h=>absurd h (by decide));clear hρ hp;unfold OpRun;go_simp;exact hR _ _ (Below.refl _ _) h97)
     case o7=>(refine oQF rfl ?_;intro ρ w1 R hcon hfn hρ hb hp hR;have f40:=hp 5 40 rfl rfl;obtain ⟨a97,b97,e97,h97,k97⟩:=ZD2.parts f40;replace hR:=fun v w2 h1 h2=>hR v w2 h1 h2 (fun h=>absurd h (by decide));clear hρ hp;unfold OpRun;go_simp;exact hR _ _ (Below.refl _ _) k97)
     case o8=>(refine oQF rfl ?_;intro ρ w1 R hcon hfn hρ hb hp hR;clear hρ hp;unfold OpRun;go_simp;exact hR _ _ (below_alloc _ _) ⟨_,rfl,hb.size,ZL.made rfl⟩ (fun _=>⟨_,rfl,Nat.le_refl _,by simp⟩))
     case o9=>(refine oQF rfl ?_;intro ρ w1 R hcon hfn hρ hb hp hR;clear hρ hp;unfold OpRun;go_simp;exact hR _ _ (below_alloc _ _) ⟨_,rfl,hb.size,ZL.made rfl⟩ (fun _=>⟨_,rfl,Nat.le_refl _,by simp⟩))
     case late=>
      intro o ho
      simp only [List.getElem?_cons_succ,List.getElem?_cons_zero,Option.some.injEq] at ho
      subst ho
      refine ⟨rfl,?_⟩
      intro ρ w1 hρ hb hp
      have f40:=hp 5 40 rfl rfl
      obtain ⟨a97,b97,e97,h97,k97⟩:=ZD2.parts f40
      refine ⟨_,?_,k97⟩
      intro w2
      have hcon:=hρ.con
      go_simp
      try rfl
     case after=>
      intro u wn hb hf hd
      have f46:=hf 6 46 (by omega) rfl
      have f47:=hf 7 47 (by omega) rfl
      have f11:=hf 8 11 (by omega) rfl
      have f12:=hf 9 12 (by omega) rfl
      have d11_12:u 11≠u 12:=hd 8 9 11 12 (by omega) (by omega) (by omega) rfl rfl rfl rfl
      clear hf hd
      simp only [putAll,Act.put,List.setIfInBounds_toArray,List.set_cons_zero,List.set_cons_succ,List.drop_succ_cons,List.drop_zero,List.drop_nil]
      obtain ⟨xa1,xc1,xe1,xn1⟩:=f46
      obtain ⟨xa2,xc2,xe2,xn2⟩:=f47
      obtain ⟨gv11,eg1,hg1,zz1⟩:=f11
      obtain ⟨gv12,eg2,hg2,zz2⟩:=f12
      have gne:gv11≠gv12:=by intro h;apply d11_12;rw [eg1,eg2,h]
      rw [xe1,xe2,eg1,eg2]
      clear xe1 xe2 eg1 eg2 d11_12
      have zst:=zv_store2 (by decide) hb hg1 hg2 gne zz1 zz2 xn1 xn2
      obtain ⟨k0,k1,kf0,kf1,-⟩:=id zz1
      obtain ⟨l0,l1,lf0,lf1,-⟩:=id zz2
      go_upto_region 9 with fail
      clear k0 k1 kf0 kf1 l0 l1 lf0 lf1 zz1 zz2 xn1 xn2 hb
      refine wp_worldZ (fun WW=>Below _ _ WW∧ZV _ _ WW _ _∧ZV _ _ WW _ _) zst ?_
      clear zst
      intro W9 ⟨y9,z11,z12⟩
      replace yr:=below_trans yr y9
      replace yA:=yA.below y9
      replace yR:=yR.below y9
      replace y6:=y6.below y9
      replace y7:=y7.below y9
      replace z9:=z9.below y9
      clear y9 hg1 hg2 gne z12 DV2
      refine wp_region_grow 4 [48,49,50,51] [Fact.z 3 ((Q1:Int)),Fact.z 3 ((Q2:Int)),Fact.z 3 (U:Int),Fact.pz 3 (Q1,U)] (by kernel_rfl) (by kernel_rfl) ⟨?o0,?o1,?o2,?o3,trivial⟩ ?after
      case o0=>(refine oQ rfl ?_;intro ρ w1 R hcon hfn hρ hb hp hR;have e9:ρ (.tmp 9)=.pointer (some ⟨gv9,0,none⟩):=hρ.tmp 9 rfl;obtain ⟨ya9,yc9,yj9,yn9⟩:=ZV.below z9 hb;obtain ⟨j90,j91,-⟩:=yj9;clear hρ hp;unfold OpRun;go_simp;exact hR _ _ (Below.refl _ _) ⟨ya9,yc9,rfl,yn9⟩)
      case o1=>(refine oQ rfl ?_;intro ρ w1 R hcon hfn hρ hb hp hR;have e11:ρ (.tmp 11)=.pointer (some ⟨gv11,0,none⟩):=hρ.tmp 11 rfl;obtain ⟨ya9,yc9,yj9,yn9⟩:=ZV.below z11 hb;obtain ⟨j90,j91,-⟩:=yj9;clear hρ hp;unfold OpRun;go_simp;exact hR _ _ (Below.refl _ _) ⟨ya9,yc9,rfl,yn9⟩)
      case o2=>(refine oQ rfl ?_;intro ρ w1 R hcon hfn hρ hb hp hR;have f49:=hp 1 49 rfl rfl;clear hρ hp;unfold OpRun;go_simp;(refine (UP.out _ _ f49).mono ?_;rintro e wn ⟨v9,rfl,hv9,hbn⟩;exact ⟨_,rfl,hR _ _ hbn hv9⟩))
      case o3=>(refine oQ rfl ?_;intro ρ w1 R hcon hfn hρ hb hp hR;have f48:=hp 0 48 rfl rfl;have f50:=hp 2 50 rfl rfl;clear hρ hp;unfold OpRun;go_simp;(obtain ⟨a91,c91,e91,n91⟩:=ZD.toN f48;obtain ⟨a92,c92,e92,n92⟩:=ZD.toN f50;rw [e91,e92];exact hR _ _ (Below.refl _ _) (PZ.mk (x:=(Q1,U)) n91 n92)))
      case after=>
       intro u wn hb hf
       have f51:=hf 3 51 (by omega) rfl
       clear hf
       simp only [putAll,Act.put,List.setIfInBounds_toArray,List.set_cons_zero,List.set_cons_succ,List.drop_succ_cons,List.drop_zero,List.drop_nil]
       obtain ⟨a8,c8,b8,d8,e51,m8,m9⟩:=f51
       rw [e51]
       clear e51
       replace yr:=below_trans yr hb
       replace yA:=yA.below hb
       replace yR:=yR.below hb
       replace y6:=y6.below hb
       obtain ⟨x0,x1,x2,x3,⟨⟨k0,k1,k2,k3⟩,f0,f1,f2,f3,s7⟩⟩:=(y7.below hb).bc
       clear hb y7 z9 z11 UP
       go_upto_region 10 with fail
       refine wp_worldZ (fun WW=>Below w.heap.size w WW∧BV 63 3 WW w.heap.size y∧BC 63 WW (w.heap.size+1) false (.slice none 0 0) false (.slice none 0 0)∧BV 63 3 WW g6 (S1,S2)∧BV 63 3 WW g7 (Q1,U)) ⟨below_pu4 yr (by omega) _ _ _ _,yA.far (by omega) s7 (by decide) _ _ _ _,yR.far (by omega) _ _ _ _,y6.far hg67 s7 (by decide) _ _ _ _,BC.put_bv (x:=(Q1,U)) ⟨⟨k0,k1,k2,k3⟩,f0,f1,f2,f3,s7⟩ (by decide) m8 m9⟩ ?_
       clear yr yA yR y6 k0 k1 k2 k3 f0 f1 f2 f3 s7 m8 m9
       intro WA ⟨yr,yA,yR,y6,y7⟩
       refine wp_region_grow 11 [52,53,54,55,56,57,58,59,60,61,62] [Fact.is (.pointer (some ⟨g6,0,none⟩)),Fact.z 3 (S1:Int),Fact.is (.pointer (some ⟨g7,0,none⟩)),Fact.z 3 (Q1:Int),Fact.z 3 (V1:Int),Fact.is (.pointer (some ⟨g6,2,none⟩)),Fact.z 3 (S2:Int),Fact.is (.pointer (some ⟨g7,2,none⟩)),Fact.z 3 (U:Int),Fact.z 3 (V2:Int),Fact.pz 3 (V1,V2)] (by kernel_rfl) (by kernel_rfl) ⟨?o0,?o1,?o2,?o3,?o4,?o5,?o6,?o7,?o8,?o9,?o10,trivial⟩ ?after
       case o0=>(refine oQ rfl ?_;intro ρ w1 R hcon hfn hρ hb hp hR;have e6:ρ (.tmp 6)=.pointer (some ⟨g6,0,none⟩):=hρ.tmp 6 rfl;clear hρ hp;unfold OpRun;go_simp;exact hR _ _ (Below.refl _ _) rfl)
       case o1=>(refine oQ rfl ?_;intro ρ w1 R hcon hfn hρ hb hp hR;have e52:ρ (.tmp 52)=_:=hp 0 52 rfl rfl;obtain ⟨qa,qc,q0,q1,qz⟩:=(y6.below hb).lo;clear hρ hp;unfold OpRun;go_simp;exact hR _ _ (Below.refl _ _) qz)
       case o2=>(refine oQ rfl ?_;intro ρ w1 R hcon hfn hρ hb hp hR;have e7:ρ (.tmp 7)=.pointer (some ⟨g7,0,none⟩):=hρ.tmp 7 rfl;clear hρ hp;unfold OpRun;go_simp;exact hR _ _ (Below.refl _ _) rfl)
       case o3=>(refine oQ rfl ?_;intro ρ w1 R hcon hfn hρ hb hp hR;have e54:ρ (.tmp 54)=_:=hp 2 54 rfl rfl;obtain ⟨qa,qc,q0,q1,qz⟩:=(y7.below hb).lo;clear hρ hp;unfold OpRun;go_simp;exact hR _ _ (Below.refl _ _) qz)
       case o4=>(refine oQ rfl ?_;intro ρ w1 R hcon hfn hρ hb hp hR;have f53:=hp 1 53 rfl rfl;have f55:=hp 3 55 rfl rfl;clear hρ hp;unfold OpRun;go_simp;(refine (AD1.out _ _ _ f53 f55).mono ?_;rintro e wn ⟨v9,rfl,hv9,hbn⟩;exact ⟨_,rfl,hR _ _ hbn hv9⟩))
       case o5=>(refine oQ rfl ?_;intro ρ w1 R hcon hfn hρ hb hp hR;have e6:ρ (.tmp 6)=.pointer (some ⟨g6,0,none⟩):=hρ.tmp 6 rfl;clear hρ hp;unfold OpRun;go_simp;exact hR _ _ (Below.refl _ _) rfl)
       case o6=>(refine oQ rfl ?_;intro ρ w1 R hcon hfn hρ hb hp hR;have e57:ρ (.tmp 57)=_:=hp 5 57 rfl rfl;obtain ⟨qa,qc,q0,q1,qz⟩:=(y6.below hb).hi;clear hρ hp;unfold OpRun;go_simp;exact hR _ _ (Below.refl _ _) qz)
       case o7=>(refine oQ rfl ?_;intro ρ w1 R hcon hfn hρ hb hp hR;have e7:ρ (.tmp 7)=.pointer (some ⟨g7,0,none⟩):=hρ.tmp 7 rfl;clear hρ hp;unfold OpRun;go_simp;exact hR _ _ (Below.refl _ _) rfl)
       case o8=>(refine oQ rfl ?_;intro ρ w1 R hcon hfn hρ hb hp hR;have e59:ρ (.tmp 59)=_:=hp 7 59 rfl rfl;obtain ⟨qa,qc,q0,q1,qz⟩:=(y7.below hb).hi;clear hρ hp;unfold OpRun;go_simp;exact hR _ _ (Below.refl _ _) qz)
       case o9=>(refine oQ rfl ?_;intro ρ w1 R hcon hfn hρ hb hp hR;have f58:=hp 6 58 rfl rfl;have f60:=hp 8 60 rfl rfl;clear hρ hp;unfold OpRun;go_simp;(refine (AD2.out _ _ _ f58 f60).mono ?_;rintro e wn ⟨v9,rfl,hv9,hbn⟩;exact ⟨_,rfl,hR _ _ hbn hv9⟩))
       case o10=>(refine oQ rfl ?_;intro ρ w1 R hcon hfn hρ hb hp hR;have f56:=hp 4 56 rfl rfl;have f61:=hp 9 61 rfl rfl;clear hρ hp;unfold OpRun;go_simp;(obtain ⟨a91,c91,e91,n91⟩:=ZD.toN f56;obtain ⟨a92,c92,e92,n92⟩:=ZD.toN f61;rw [e91,e92];exact hR _ _ (Below.refl _ _) (PZ.mk (x:=(V1,V2)) n91 n92)))
       case after=>
        intro u wn hb hf
        have f62:=hf 10 62 (by omega) rfl
        clear hf
        simp only [putAll,Act.put,List.setIfInBounds_toArray,List.set_cons_zero,List.set_cons_succ,List.drop_succ_cons,List.drop_zero,List.drop_nil]
        obtain ⟨a8,c8,b8,d8,e62,m8,m9⟩:=f62
        rw [e62]
        clear e62
        replace yr:=below_trans yr hb
        replace yA:=yA.below hb
        replace yR:=yR.below hb
        replace y7:=y7.below hb
        obtain ⟨x0,x1,x2,x3,⟨⟨k0,k1,k2,k3⟩,f0,f1,f2,f3,s7⟩⟩:=(y6.below hb).bc
        clear hb y6 AD1 AD2
        have wI:IntKind.i64.wrap ((n1:Int)+1)=(n1:Int)+1:=IntWalk.i64_in _ (by omega)
        go_upto_region 5 with fail
        refine wp_worldZ (fun WW=>Below w.heap.size w WW∧BV 63 3 WW w.heap.size y∧BC 63 WW (w.heap.size+1) false (.slice none 0 0) false (.slice none 0 0)∧BV 63 3 WW g7 (Q1,U)∧BV 63 3 WW g6 (V1,V2)) ⟨below_pu4 yr (by omega) _ _ _ _,yA.far (by omega) s7 (by decide) _ _ _ _,yR.far (by omega) _ _ _ _,y7.far (by omega) s7 (by decide) _ _ _ _,BC.put_bv (x:=(V1,V2)) ⟨⟨k0,k1,k2,k3⟩,f0,f1,f2,f3,s7⟩ (by decide) m8 m9⟩ ?_
        clear yr yA yR y7 k0 k1 k2 k3 f0 f1 f2 f3 s7 m8 m9
        intro WB ⟨yr,yA,yR,y7,y6⟩
        rw [←ET.out] at y7
        rw [←ES.out] at y6
        go_wp2_with fail
        go_roundw
        case rel=>exact ⟨n+1,n1+1,by go_num,by rw [HN1.out],hnN,yr,yA,yR,y6,y7⟩
        case measure=>have:=HN1.out;simp [intOf];omega
end Go.Proofs.YtehhegbkahnhgaaGreatDoor
namespace Go.Ulp
open Go.RowKit
def Sz (t:Nat) (x:PP):Prop:=x.1≤10^(t+1650)∧x.2≤10^(t+1650)
theorem sz_of {t i:Nat} {x:PP} (h:x.1≤x.2) (hi:i≤4900) (k:x.2≤10^t*2^i):Sz t x:=by
 have a:x.2≤10^(t+1650):=by
  obtain ⟨z,hz⟩: ∃z,z=550:=⟨_,rfl⟩
  rw [show t+1650=t+3*z by omega,Nat.pow_add,Nat.pow_mul]
  refine Nat.le_trans k (Nat.mul_le_mul_left _ ?_)
  have e2:(2:Nat)^i≤(2^9)^z:=by rw [←Nat.pow_mul];exact Nat.pow_le_pow_right (by omega) (by omega)
  exact Nat.le_trans e2 (Nat.pow_le_pow_left (by omega) _)
 exact ⟨Nat.le_trans h a,a⟩
theorem bMul_mono {a b:PP} {D:Nat} (ha:a.1≤a.2) (hb:b.1≤b.2):(bMul a b D).1≤(bMul a b D).2:=
 Nat.le_trans (Nat.div_le_div_right (Nat.mul_le_mul ha hb)) (Nat.le_succ _)
theorem bMul_top {a b:PP} {D i j:Nat} (hD:0<D) (ha:a.2≤D*2^i) (hb:b.2≤D*2^j):(bMul a b D).2≤D*2^(i+j+1):=by
 show a.2*b.2/D+1≤_
 have h:a.2*b.2/D≤D*2^(i+j):=by
  refine Nat.div_le_of_le_mul (Nat.le_trans (Nat.mul_le_mul ha hb) (Nat.le_of_eq ?_))
  rw [Nat.mul_mul_mul_comm,Nat.mul_assoc D D,Nat.pow_add]
 have e:D*2^(i+j+1)=D*2^(i+j)*2:=by rw [Nat.pow_succ,Nat.mul_assoc]
 have:=Nat.mul_pos hD (Nat.two_pow_pos (i+j))
 omega
theorem pow_up {x D i j:Nat} (h:x≤D*2^i) (hij:i≤j):x≤D*2^j:=Nat.le_trans h (Nat.mul_le_mul_left _ (Nat.pow_le_pow_right (by omega) hij))
theorem bPow_top {D:Nat} (hD:0<D) {a:PP} (h01:a.1≤a.2) (h5:a.2≤D*2^3): ∀(f n:Nat),n≤f→(bPow a D f n).1≤(bPow a D f n).2∧(bPow a D f n).2≤D*2^(6*n-1)
 |0,n,h=>by
  have:n=0:=by omega
  subst this
  exact ⟨Nat.le_refl _,Nat.le_of_eq (Nat.mul_one D).symm⟩
 |f+1,n,h=>by
  unfold bPow
  by_cases h0:n=0
  ·subst h0
   rw [if_pos rfl]
   exact ⟨Nat.le_refl _,Nat.le_of_eq (Nat.mul_one D).symm⟩
  ·rw [if_neg h0]
   obtain ⟨i1,i2⟩:=bPow_top hD h01 h5 f (n/2) (by omega)
   generalize bPow a D f (n/2)=h at *
   have b1:=bMul_mono (D:=D) i1 i1
   have b2:=bMul_top hD i2 i2
   dsimp only
   by_cases h1:n%2=1
   ·rw [if_pos h1]
    exact ⟨bMul_mono b1 h01,pow_up (bMul_top hD b2 h5) (by omega)⟩
   ·rw [if_neg h1]
    exact ⟨b1,pow_up b2 (by omega)⟩
theorem sz_pow {t:Nat} {a:PP} (h01:a.1≤a.2) (h5:a.2≤10^t*2^3) (f n:Nat) (hn:n≤f) (h8:n≤800):Sz t (bPow a (10^t) f n):=by
 obtain ⟨h1,h2⟩:=bPow_top (Nat.pow_pos (by omega)) h01 h5 f n hn
 exact sz_of h1 (by omega) h2
theorem sz_sq {t:Nat} {a:PP} (h01:a.1≤a.2) (h5:a.2≤10^t*2^3) (f n:Nat) (hn:n≤f) (h8:n≤400):Sz t (bMul (bPow a (10^t) f n) (bPow a (10^t) f n) (10^t)):=by
 obtain ⟨h1,h2⟩:=bPow_top (Nat.pow_pos (by omega)) h01 h5 f n hn
 exact sz_of (bMul_mono h1 h1) (by omega) (bMul_top (Nat.pow_pos (by omega)) h2 h2)
end Go.Ulp
namespace Go.Proofs.YtehhegbkahnhgaaGreatDoor
open Go.RowKit Go.Ulp
set_option maxHeartbeats 4000000
set_option maxRecDepth 100000
theorem bothPow_zero (a:PP) (t:Nat) (ht:t≤3000000000) (v:Value) (w:World) (hv:PZ 3 w a v):Calls Tryz.prog 99 #[v,.int .i64 0,.int .i64 (t:Int)] w (RetPZ 3 w (10^t,10^t)):=by
 obtain ⟨a0,c0,a1,c1,rfl,n0,n1⟩:=hv
 have TN:=hid (fun w=>zTenN t w (by omega))
 have zR:BC 63 ((w.alloc (.cells #[.bool false,.slice a0 (zl (a.1:Int)).length c0,.bool false,.slice a1 (zl (a.2:Int)).length c1] 63)).alloc (.cells #[.bool false,.slice none 0 0,.bool false,.slice none 0 0] 63)) (w.heap.size+1) false (.slice none 0 0) false (.slice none 0 0):=BC.made (by simp)
 have yb0:Below w.heap.size w ((w.alloc (.cells #[.bool false,.slice a0 (zl (a.1:Int)).length c0,.bool false,.slice a1 (zl (a.2:Int)).length c1] 63)).alloc (.cells #[.bool false,.slice none 0 0,.bool false,.slice none 0 0] 63)):=by (repeat' first|(with_reducible first|assumption|apply bR|apply bA|apply bN|apply bD|apply bL|apply bS)|refine bT ?_ (by assumption)|go_size)
 generalize 10^t=D at *
 clear n0 n1
 go_enter Tryz.func99,Tryz.ntmps99
 go_upto_region 1 with fail
 refine wp_worldZ (fun WW=>Below w.heap.size w WW∧BC 63 WW (w.heap.size+1) false (.slice none 0 0) false (.slice none 0 0)) ⟨yb0,zR⟩ ?_
 clear zR yb0
 intro W1 ⟨yb1,zR⟩
 go_upto_region 2 with fail
 obtain ⟨⟨k0,k1,k2,k3⟩,f0,f1,f2,f3,hs2⟩:=id zR
 go_wp2_with (first
  |(go_at_call 60;have hx:=m2;(with_reducible refine (TN.out _).mono ?_);rintro en w3 ⟨v3,rfl,hv3,hb3⟩;obtain ⟨a3,c3,rfl,m3⟩:=ZD.toN hv3;have zR3:=(zR.below hb2).below hb3;obtain ⟨⟨k0,k1,k2,k3⟩,f0,f1,f2,f3,hs2⟩:=id zR3)
  |(go_at_call 60;(with_reducible refine (TN.out _).mono ?_);rintro en w2 ⟨v2,rfl,hv2,hb2⟩;obtain ⟨a2,c2,rfl,m2⟩:=ZD.toN hv2))
 refine bodyPost_ret (by simp [results,Tryz.results99,go_sem,k0,k1,k2,k3];try rfl) rfl ?_
 exact ⟨_,rfl,PZ.mk (x:=(D,D)) ((m2.below hb3).pu4 hs2 (by decide) _ _ _ _) (m3.pu4 hs2 (by decide) _ _ _ _),below_pu4 (below_trans (below_trans yb1 hb2) hb3) (by omega) _ _ _ _⟩
theorem bothPow_aux (a:PP) (t:Nat) (h01:a.1≤a.2) (h5:a.2≤10^t*2^3) (ht:t≤3000000000) (f:Nat): ∀(n:Nat) (v:Value) (w:World),n≤f→n≤800→PZ 3 w a v→Calls Tryz.prog 99 #[v,.int .i64 (n:Int),.int .i64 (t:Int)] w (RetPZ 3 w (bPow a (10^t) f n)):=by
 induction f with
 |zero=>
  intro n v w hn _ hv
  obtain rfl:n=0:=by omega
  exact bothPow_zero a t ht v w hv
 |succ f ih=>
  intro n v w hn hs hv
  by_cases hn0:n=0
  ·subst hn0
   have e:bPow a (10^t) (f+1) 0=(10^t,10^t):=by unfold bPow;rw [if_pos rfl]
   rw [e]
   exact bothPow_zero a t ht v w hv
  obtain ⟨q,hq⟩: ∃q,q=n/2:=⟨_,rfl⟩
  obtain ⟨r,hr⟩: ∃r,r=n%2:=⟨_,rfl⟩
  have IH:=hid (fun v w h=>ih q v w (by omega) (by omega) h)
  have szH:=sz_pow h01 h5 f q (by omega) (by omega)
  have szP:=sz_sq h01 h5 f q (by omega) (by omega)
  have szA:Sz t a:=sz_of h01 (by omega) h5
  have eP:bPow a (10^t) (f+1) n=if r=1 then bMul (bMul (bPow a (10^t) f q) (bPow a (10^t) f q) (10^t)) a (10^t) else bMul (bPow a (10^t) f q) (bPow a (10^t) f q) (10^t):=by
   rw [show bPow a (10^t) (f+1) n=(if n=0 then (10^t,10^t) else let h:=bPow a (10^t) f (n/2);let p:=bMul h h (10^t);if n%2=1 then bMul p a (10^t) else p) from rfl,if_neg hn0,hq,hr]
  have M1:=hid (fun v u w h k=>bothMul_any _ _ t (t+1650) v u w h k (by omega) (by omega) szH.1 szH.2 szH.1 szH.2)
  have M2:=hid (fun v u w h k=>bothMul_any _ a t (t+1650) v u w h k (by omega) (by omega) szP.1 szP.2 szA.1 szA.2)
  clear ih szH szP szA
  generalize bPow a (10^t) f q=H at *
  generalize bMul H H (10^t)=P at *
  rw [eP]
  clear eP
  obtain ⟨A2,hA2⟩: ∃A,A=bMul P a (10^t):=⟨_,rfl⟩
  rw [←hA2] at M2 ⊢
  clear hA2
  obtain ⟨a0,c0,a1,c1,rfl,n0,n1⟩:=hv
  have zA:BV 63 3 ((w.alloc (.cells #[.bool false,.slice a0 (zl (a.1:Int)).length c0,.bool false,.slice a1 (zl (a.2:Int)).length c1] 63)).alloc (.cells #[.bool false,.slice none 0 0,.bool false,.slice none 0 0] 63)) w.heap.size a:=(BV.made rfl n0 n1).below (below_alloc _ _)
  have zR:BC 63 ((w.alloc (.cells #[.bool false,.slice a0 (zl (a.1:Int)).length c0,.bool false,.slice a1 (zl (a.2:Int)).length c1] 63)).alloc (.cells #[.bool false,.slice none 0 0,.bool false,.slice none 0 0] 63)) (w.heap.size+1) false (.slice none 0 0) false (.slice none 0 0):=BC.made (by simp)
  have yb0:Below w.heap.size w ((w.alloc (.cells #[.bool false,.slice a0 (zl (a.1:Int)).length c0,.bool false,.slice a1 (zl (a.2:Int)).length c1] 63)).alloc (.cells #[.bool false,.slice none 0 0,.bool false,.slice none 0 0] 63)):=by (repeat' first|(with_reducible first|assumption|apply bR|apply bA|apply bN|apply bD|apply bL|apply bS)|refine bT ?_ (by assumption)|go_size)
  have e1:(n:Int)/2=(q:Int):=by omega
  have e2:(n:Int)%2=(r:Int):=by omega
  have hr2:r=0∨r=1:=by omega
  clear hq hr n0 n1
  go_enter Tryz.func99,Tryz.ntmps99
  go_upto_region 1 with fail
  refine wp_worldZ (fun WW=>Below w.heap.size w WW∧BV 63 3 WW w.heap.size a∧BC 63 WW (w.heap.size+1) false (.slice none 0 0) false (.slice none 0 0)) ⟨yb0,zA,zR⟩ ?_
  clear zR yb0 zA
  intro W1 ⟨yb1,zA,zR⟩
  obtain ⟨aA,cA,bA,dA,⟨j0,j1,j2,j3⟩,pzA⟩:=zA.all
  go_upto_region 4 with (go_at_call 99;(with_reducible refine (IH.out _ _ pzA).mono ?_);rintro en w2 ⟨v2,rfl,⟨a2,c2,b2,d2,rfl,m2,m3⟩,hb2⟩)
  have z7:BV 63 3 (w2.alloc (.cells #[.bool false,.slice a2 (zl (H.1:Int)).length c2,.bool false,.slice b2 (zl (H.2:Int)).length d2] 63)) w2.heap.size H:=BV.made rfl m2 m3
  refine wp_worldZ (fun WW=>Below w.heap.size w WW∧BV 63 3 WW w.heap.size a∧BC 63 WW (w.heap.size+1) false (.slice none 0 0) false (.slice none 0 0)∧BV 63 3 WW w2.heap.size H) ⟨below_trans (below_trans yb1 hb2) (below_alloc _ _),(zA.below hb2).below (below_alloc _ _),(zR.below hb2).below (below_alloc _ _),z7⟩ ?_
  obtain ⟨g7,hg7⟩: ∃g,g=w2.heap.size:=⟨_,rfl⟩
  rw [←hg7]
  clear zA zR yb1 z7 m2 m3 hb2 hg7 j0 j1 j2 j3 pzA
  intro W2 ⟨yb2,zA,zR,z7⟩
  obtain ⟨a7,c7,b7,d7,⟨j0,j1,j2,j3⟩,pz7⟩:=z7.all
  go_upto_region 5 with (go_at_call 98;(with_reducible refine (M1.out _ _ _ pz7 pz7).mono ?_);rintro en w3 ⟨v3,rfl,⟨a3,c3,b3,d3,rfl,m2,m3⟩,hb2⟩)
  have hlt:=(zR.below hb2).lt
  have z8:BV 63 3 (w3.alloc (.cells #[.bool false,.slice a3 (zl (P.1:Int)).length c3,.bool false,.slice b3 (zl (P.2:Int)).length d3] 63)) w3.heap.size P:=BV.made rfl m2 m3
  refine wp_worldZ (fun WW=>Below w.heap.size w WW∧BV 63 3 WW w.heap.size a∧BC 63 WW (w.heap.size+1) false (.slice none 0 0) false (.slice none 0 0)∧BV 63 3 WW w3.heap.size P) ⟨below_trans (below_trans yb2 hb2) (below_alloc _ _),(zA.below hb2).below (below_alloc _ _),(zR.below hb2).below (below_alloc _ _),z8⟩ ?_
  obtain ⟨g8,hg8⟩: ∃g,g=w3.heap.size:=⟨_,rfl⟩
  rw [←hg8] at hlt ⊢
  clear zA zR yb2 z7 z8 m2 m3 hb2 hg8 j0 j1 j2 j3 pz7
  intro W3 ⟨yb3,zA,zR,z8⟩
  obtain ⟨aA,cA,bA,dA,⟨j0,j1,j2,j3⟩,pzA⟩:=zA.all
  obtain ⟨a8,c8,b8,d8,⟨⟨i0,i1,i2,i3⟩,fi0,fi1,fi2,fi3,s8⟩,m2,m3⟩:=id z8
  have pz8:PZ 3 W3 P (.agg #[.bool false,.slice a8 (zl (P.1:Int)).length c8,.bool false,.slice b8 (zl (P.2:Int)).length d8]):=PZ.mk m2 m3
  obtain ⟨⟨k0,k1,k2,k3⟩,f0,f1,f2,f3,hs2⟩:=id zR
  rcases hr2 with rfl|rfl
  ·rw [if_neg (by omega)]
   go_wp2_with fail
   refine bodyPost_ret (by simp [results,Tryz.results99,go_sem,k0,k1,k2,k3];try rfl) rfl ?_
   exact ⟨_,rfl,PZ.mk (m2.pu4 hs2 (by decide) _ _ _ _) (m3.pu4 hs2 (by decide) _ _ _ _),below_pu4 yb3 (by omega) _ _ _ _⟩
  ·rw [if_pos rfl]
   go_upto_region 7 with (go_at_call 98;(with_reducible refine (M2.out _ _ _ pz8 pzA).mono ?_);rintro en w4 ⟨v4,rfl,⟨a4,c4,b4,d4,rfl,m4,m5⟩,hb4⟩;obtain ⟨x0,x1,x2,x3,⟨⟨k0,k1,k2,k3⟩,f0,f1,f2,f3,s7⟩⟩:=(z8.below hb4).bc)
   refine wp_worldZ (fun WW=>Below w.heap.size w WW∧BC 63 WW (w.heap.size+1) false (.slice none 0 0) false (.slice none 0 0)∧BV 63 3 WW g8 A2) ⟨below_pu4 (below_trans yb3 hb4) (by omega) _ _ _ _,(zR.below hb4).far (by omega) _ _ _ _,BC.put_bv ⟨⟨k0,k1,k2,k3⟩,f0,f1,f2,f3,s7⟩ (by decide) m4 m5⟩ ?_
   clear zA zR z8 yb3 j0 j1 j2 j3 i0 i1 i2 i3 k0 k1 k2 k3 f0 f1 f2 f3 fi0 fi1 fi2 fi3 s7 s8 pz8 pzA m2 m3 m4 m5 hb4
   intro W4 ⟨yb4,zR,z8⟩
   obtain ⟨a8,c8,b8,d8,⟨⟨i0,i1,i2,i3⟩,fi0,fi1,fi2,fi3,s8⟩,m2,m3⟩:=id z8
   obtain ⟨⟨k0,k1,k2,k3⟩,f0,f1,f2,f3,hs2⟩:=id zR
   go_wp2_with fail
   refine bodyPost_ret (by simp [results,Tryz.results99,go_sem,k0,k1,k2,k3];try rfl) rfl ?_
   exact ⟨_,rfl,PZ.mk (m2.pu4 hs2 (by decide) _ _ _ _) (m3.pu4 hs2 (by decide) _ _ _ _),below_pu4 yb4 (by omega) _ _ _ _⟩
end Go.Proofs.YtehhegbkahnhgaaGreatDoor
