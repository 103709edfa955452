/- SeriesLog: what the proof leans on, part 19 (Sf3 Sf4 Sf5 Rn5 Rr5). -/
import Derived.Deep.DeepCutAuto
import Derived.Deep.CutBlock
import Derived.Test.YtehhegbkahnhgaaDoorKSeriesLog9
import Derived.Test.YtehhegbkahnhgaaDoorKSeriesLog13
import Derived.Test.YtehhegbkahnhgaaDoorKSeriesLog14
import Derived.Test.YtehhegbkahnhgaaDoorKSeriesLog16
import Derived.Test.YtehhegbkahnhgaaDoorKSeriesLog18
set_option linter.unusedVariables false
set_option linter.unusedSimpArgs false
namespace Go.Ulp
open Go.RowKit
theorem val_of (N n m:Nat) (x0:Int) (h:nrm (N:Int) (-(n:Int))=nrm (m:Int) x0):((2^n:Nat):Rat)*dyQ m x0=(N:Rat):=by
 obtain ⟨k,a1,a2⟩:=nrm_rep (N:Int) (-(n:Int))
 obtain ⟨l,b1,b2⟩:=nrm_rep (m:Int) x0
 rw [h] at a1 a2
 have key:m*(2^n*2^x0.toNat)=N*2^(-x0).toNat:=by
  by_cases hm:m=0
  ·have h0:(nrm (m:Int) x0).1=0:=by rw [hm];rfl
   rw [h0,Int.zero_mul] at a1
   have:N=0:=by omega
   rw [hm,this,Nat.zero_mul,Nat.zero_mul]
  ·have hN:(N:Int)≠0:=fun hN=>by
    have h1:=(nrm_zero_iff (N:Int) (-(n:Int))).2 hN
    rw [h] at h1
    exact hm (by have:=(nrm_zero_iff (m:Int) x0).1 h1;omega)
   have a2:=a2 hN
   have b2:=b2 (by omega)
   apply Int.ofNat_inj.1
   rw [Int.natCast_mul,Int.natCast_mul,Int.natCast_mul,←pw_nat,←pw_nat,←pw_nat]
   generalize (nrm (m:Int) x0).1=y at *
   rw [a1,b1,Int.mul_assoc,Int.mul_assoc,←pw_add,←pw_add,←pw_add]
   congr 2
   omega
 apply Rat.le_antisymm
 all_goals
  apply Rat.le_of_mul_le_mul_left _ (pow2_pos (-x0).toNat)
  have e:=dyQ_eq m x0
  have key2:((m*(2^n*2^x0.toNat):Nat):Rat)=((N*2^(-x0).toNat:Nat):Rat):=by rw [key]
  rw [cast_mul,cast_mul,cast_mul,two_cast,two_cast,two_cast] at key2
  rw [two_cast]
  have e2:(2:Rat)^(-x0).toNat*((2:Rat)^n*dyQ m x0)=(2:Rat)^(-x0).toNat*(N:Rat):=by grind
  rw [e2]
  exact Rat.le_refl
theorem sg_neg_iff {neg:Bool} {m:Nat} (hm:0<m):(sg neg (m:Int)<0)↔neg=true:=by
 cases neg
 ·show (m:Int)<0↔_
  constructor
  ·intro h;omega
  ·intro h;cases h
 ·show -(m:Int)<0↔_
  constructor
  ·intro _;rfl
  ·intro _;omega
theorem sign_of (X:Int) (n m:Nat) (x0:Int) (neg:Bool) (h:nrm X (-(n:Int))=nrm (sg neg (m:Int)) x0) (hm:0<m):zneg X=neg:=by
 obtain ⟨k,a1,-⟩:=nrm_rep X (-(n:Int))
 obtain ⟨l,b1,-⟩:=nrm_rep (sg neg (m:Int)) x0
 rw [h] at a1
 generalize (nrm (sg neg (m:Int)) x0).1=y at *
 have p1:=pw_pos k
 have p2:=pw_pos l
 have e:=sg_neg_iff (neg:=neg) hm
 rw [b1] at e
 have f1:(X<0)↔(y<0):=by
  rw [a1]
  constructor
  ·intro h2;exact Int.lt_of_not_ge fun h3=>by have:=Int.mul_nonneg h3 (Int.le_of_lt p1);omega
  ·intro h2;exact Int.mul_neg_of_neg_of_pos h2 p1
 have f2:(y*pw l<0)↔(y<0):=by
  constructor
  ·intro h2;exact Int.lt_of_not_ge fun h3=>by have:=Int.mul_nonneg h3 (Int.le_of_lt p2);omega
  ·intro h2;exact Int.mul_neg_of_neg_of_pos h2 p2
 unfold zneg
 have f3:(X<0)↔neg=true:=by rw [f1,←f2];exact e
 cases neg
 ·exact decide_eq_false (by rw [f3];simp)
 ·exact decide_eq_true (f3.2 rfl)
theorem bE_top {y:PP} {t N:Nat} (h:BeOK y t N) (x:Rat) (x0:0≤x) (x1:x≤1) (h1:(y.1:Rat)≤((10^t:Nat):Rat)*x) (h2:((10^t:Nat):Rat)*x≤(y.2:Rat)):(up9 (beS y (10^t) N)).1≤(up9 (beS y (10^t) N)).2∧(up9 (beS y (10^t) N)).2≤10^t*2^3:=by
 have hD:=Nat.pow_pos (n:=t) (show 0<10 by omega)
 have i:=bothE_in y (10^t) hD x x0 x1 h1 h2 N h.n1 h.e1
 have tp:=i.top x0 1 (by have:((1:Nat):Rat)=1:=rfl
                         grind)
 obtain ⟨wa,la,-⟩:=bS_wd (ten12 h.t0) h.h1 h.h2 h.h3 N
 have hn:=h.n2
 have h20:10^20≤10^t:=Nat.pow_le_pow_right (by omega) h.t0
 have e20:8*(12000000002+1)+9≤10^20:=by decide
 show (beS y (10^t) N).1≤(beS y (10^t) N).2+9∧(beS y (10^t) N).2+9≤_
 have tp2:(beS y (10^t) N).1≤10^t*2^(2*1):=tp
 generalize 10^t=D at *
 omega
structure EbOK (N b t n1 n2:Nat):Prop where
 hb:0<b
 t0:20≤t
 t1:t≤3000000000
 b1:BeOK (10^t,10^t) t n1
 b2:BeOK (frB (N%b) b (10^t)) t n2
 w:N/b≤800
theorem EbOK.tops {N b t n1 n2:Nat} (h:EbOK N b t n1 n2) (y:Rat) (hy:(b:Rat)*y=(N:Rat)):
 ((up9 (beS (10^t,10^t) (10^t) n1)).1≤(up9 (beS (10^t,10^t) (10^t) n1)).2∧(up9 (beS (10^t,10^t) (10^t) n1)).2≤10^t*2^3)∧
 ((up9 (beS (frB (N%b) b (10^t)) (10^t) n2)).1≤(up9 (beS (frB (N%b) b (10^t)) (10^t) n2)).2∧(up9 (beS (frB (N%b) b (10^t)) (10^t) n2)).2≤10^t*2^3):=by
 have hD:=Nat.pow_pos (n:=t) (show 0<10 by omega)
 obtain ⟨x,x0,x1,hx,-⟩:=frac_parts N b h.hb y hy
 have f:=frB_in (N%b) b (10^t) h.hb x hx
 exact ⟨bE_top h.b1 1 (by grind) (by grind) (by show ((10^t:Nat):Rat)≤_;grind) (by show _≤((10^t:Nat):Rat);grind),bE_top h.b2 x x0 x1 f.1 f.2⟩
theorem EbOK.sizes {N b t n1 n2:Nat} (h:EbOK N b t n1 n2) (y:Rat) (hy:(b:Rat)*y=(N:Rat)):
 Sz t (bPow (up9 (beS (10^t,10^t) (10^t) n1)) (10^t) (N/b) (N/b))∧Sz t (up9 (beS (frB (N%b) b (10^t)) (10^t) n2))∧Sz t (eB N b (10^t) n1 n2)∧0<(eB N b (10^t) n1 n2).1∧0<(eB N b (10^t) n1 n2).2:=by
 have hD:=Nat.pow_pos (n:=t) (show 0<10 by omega)
 obtain ⟨⟨a1,a2⟩,⟨f1,f2⟩⟩:=h.tops y hy
 obtain ⟨p1,p2⟩:=bPow_top hD a1 a2 (N/b) (N/b) (Nat.le_refl _)
 have w:=h.w
 have low:=eB_low N b (10^t) n1 n2 h.hb (ten12 h.t0)
 have m1:(eB N b (10^t) n1 n2).1≤(eB N b (10^t) n1 n2).2:=bMul_mono p1 f1
 have m2:(eB N b (10^t) n1 n2).2≤10^t*2^(6*(N/b)-1+3+1):=bMul_top hD p2 f2
 exact ⟨sz_of p1 (by omega) p2,sz_of f1 (by omega) f2,sz_of m1 (by omega) m2,by omega,by omega⟩
def Fact.qn (ti:TypeId) (r n:Nat):Fact:=⟨fun v w=> ∃a c,v=.agg #[.bool false,.slice a (zl (r:Int)).length c,.int .i64 (n:Int)]∧Nz ti w a c (zl (r:Int)),fun _ _ _ h hb=>by
 obtain ⟨a,c,h1,h2⟩:=h;exact ⟨a,c,h1,h2.below hb⟩⟩
def Fact.b0 (B:Nat) (t:TypeId):Fact:=⟨fun v w=> ∃g,v=.pointer (some ⟨g,0,none⟩)∧B≤g∧BC t w g false (.slice none 0 0) false (.slice none 0 0),fun _ _ _ h hb=>by
 obtain ⟨g,h1,h2,h3⟩:=h;exact ⟨g,h1,h2,h3.below hb⟩⟩
end Go.Ulp
namespace Go.Proofs.YtehhegbkahnhgaaDoor
open Go.RowKit Go.Ulp
set_option maxHeartbeats 4000000
set_option maxRecDepth 100000
end Go.Proofs.YtehhegbkahnhgaaDoor
namespace Go.Ulp
open Go.RowKit
def PI (ti:TypeId) (w:World) (x:Int×Int) (v:Value):Prop:= ∃a c b d,v=.agg #[.bool (zneg x.1),.slice a (zl x.1).length c,.bool (zneg x.2),.slice b (zl x.2).length d]∧Nz ti w a c (zl x.1)∧Nz ti w b d (zl x.2)
def RetPI (ti:TypeId) (w:World) (x:Int×Int) (e:Ending) (w':World):Prop:= ∃v,e=.returned v∧PI ti w' x v∧Below w.heap.size w w'
theorem PZ.pi {ti:TypeId} {w:World} {x:PP} {v:Value} (h:PZ ti w x v):PI ti w ((x.1:Int),(x.2:Int)) v:=by
 obtain ⟨a,c,b,d,rfl,h1,h2⟩:=h
 exact ⟨a,c,b,d,by rw [zneg_nat,zneg_nat],h1,h2⟩
theorem zl_le10I {x:Int} {E:Nat} (h:x.natAbs≤10^E):(zl x).length≤E/4+1:=
 Nat.le_trans (zl_len_le (x:=x) (y:=tenZ E) (by unfold tenZ;rw [Int.natAbs_natCast];exact h)) (zl_len_ten4 E)
def RetFO (ti:TypeId) (w:World) (z:Int) (b:Bool) (e:Ending) (w':World):Prop:= ∃v,e=.returned (.tuple #[v,.bool b])∧ZD ti w' z v∧Below w.heap.size w w'
theorem two_ten (pl:Nat):2^pl≤10^pl:=Nat.pow_le_pow_left (by omega) pl
end Go.Ulp
namespace Go.Proofs.YtehhegbkahnhgaaDoor
open Go.RowKit Go.Ulp
set_option maxHeartbeats 4000000
set_option maxRecDepth 100000
theorem floorOf_any (x:Int×Int) (t pl:Nat) (v:Value) (w:World) (hv:PI 3 w x v) (ht:t≤3000000000) (hpl:pl≤1300) (h1:x.1.natAbs≤10^(t+1650)) (h2:x.2.natAbs≤10^(t+1650)):
 Calls Tryd.prog 62 #[v,.int .i64 (t:Int),.int .i64 (pl:Int)] w (RetFO 3 w (x.1*pw pl/tenZ t) (decide (x.1*pw pl/tenZ t=x.2*pw pl/tenZ t))):=by
 obtain ⟨x1,x2⟩:=x
 obtain ⟨a0,c0,a1,c1,rfl,n0,n1⟩:=hv
 simp only at h1 h2 n0 n1 ⊢
 have hD:tenZ t≠0:=by have:=Nat.pow_pos (n:=t) (show 0<10 by omega);unfold tenZ;omega
 have lD:(zl (tenZ t)).length≤1000000000:=by have:=zl_len_ten4 t;omega
 have lW:(zl (pw pl)).length≤1000000000:=Nat.le_trans (zl_len_pw pl) (by omega)
 have l1:(zl x1).length≤1000000000:=by have:=zl_le10I h1;omega
 have l2:(zl x2).length≤1000000000:=by have:=zl_le10I h2;omega
 have p1:(zl (x1*pw pl)).length≤4000000000:=by
  have e:(x1*pw pl).natAbs≤10^(t+1650+pl):=by rw [natAbs_mul_pw];exact mul10 h1 (two_ten pl)
  have:=zl_le10I e;omega
 have p2:(zl (x2*pw pl)).length≤4000000000:=by
  have e:(x2*pw pl).natAbs≤10^(t+1650+pl):=by rw [natAbs_mul_pw];exact mul10 h2 (two_ten pl)
  have:=zl_le10I e;omega
 have TN:=hid (fun w=>zTenD t w (by omega))
 have ZP:=hid (fun w=>zpowD pl w (by omega))
 have M1:=hid (fun v u w h k=>zmulD v u x1 (pw pl) w h k l1 lW)
 have M2:=hid (fun v u w h k=>zmulD v u x2 (pw pl) w h k l2 lW)
 have D1:=hid (fun v u w h k=>zdivD v u (x1*pw pl) (tenZ t) w h k p1 lD hD)
 have D2:=hid (fun v u w h k=>zdivD v u (x2*pw pl) (tenZ t) w h k p2 lD hD)
 clear h1 h2 l1 l2 p1 p2 lD lW hD
 generalize x1*pw pl%tenZ t=R1 at *
 generalize x2*pw pl%tenZ t=R2 at *
 generalize x1*pw pl/tenZ t=Q1 at *
 generalize x2*pw pl/tenZ t=Q2 at *
 generalize x1*pw pl=P1 at *
 generalize x2*pw pl=P2 at *
 generalize tenZ t=T at *
 generalize pw pl=W at *
 have hcmp:decide (cmpI Q1 Q2=0)=decide (Q1=Q2):=decide_eq_decide.2 (cmpI_eq_zero _ _)
 obtain ⟨b,hb0⟩: ∃b,b=decide (Q1=Q2):=⟨_,rfl⟩
 rw [←hb0] at hcmp ⊢
 have HB:=hid hcmp
 have HB2:=hid (show (cmpI Q1 Q2==0)=b from hcmp)
 clear hb0 hcmp
 have zA:BC 64 ((w.alloc (.cells #[.bool (zneg x1),.slice a0 (zl x1).length c0,.bool (zneg x2),.slice a1 (zl x2).length c1] 64)).alloc (.cells #[.bool false,.slice none 0 0] 32)) w.heap.size (zneg x1) (.slice a0 (zl x1).length c0) (zneg x2) (.slice a1 (zl x2).length c1):=(BC.made rfl).below (below_alloc _ _)
 have zR:ZL 32 ((w.alloc (.cells #[.bool (zneg x1),.slice a0 (zl x1).length c0,.bool (zneg x2),.slice a1 (zl x2).length c1] 64)).alloc (.cells #[.bool false,.slice none 0 0] 32)) (w.heap.size+1) false (.slice none 0 0):=ZL.made (by simp)
 have yb0:Below w.heap.size w ((w.alloc (.cells #[.bool (zneg x1),.slice a0 (zl x1).length c0,.bool (zneg x2),.slice a1 (zl x2).length c1] 64)).alloc (.cells #[.bool false,.slice none 0 0] 32)):=by (repeat' first|(with_reducible first|assumption|apply bR|apply bA|apply bN|apply bD|apply bL|apply bS)|refine bT ?_ (by assumption)|go_size)
 have H0:=hid n0
 have H1:=hid n1
 clear n0 n1
 go_enter Tryd.func62,Tryd.ntmps62
 go_upto_region 1 with fail
 refine wp_worldZ (fun WW=>Below w.heap.size w WW∧BC 64 WW w.heap.size (zneg x1) (.slice a0 (zl x1).length c0) (zneg x2) (.slice a1 (zl x2).length c1)∧ZL 32 WW (w.heap.size+1) false (.slice none 0 0)) ⟨yb0,zA,zR⟩ ?_
 clear zA zR yb0
 intro W1 ⟨yb1,zA,zR⟩
 refine wp_region_growL 13 10 [13,14,15,16,17,18,19,20,12,21,22,8,9] [Fact.is (.pointer (some ⟨w.heap.size,0,none⟩)),Fact.z 3 x1,Fact.is (.int .i64 (pl:Int)),Fact.z 3 W,Fact.z 3 P1,Fact.is (.int .i64 (t:Int)),Fact.z 3 T,Fact.z2 3 Q1 R1,Fact.z2 3 Q1 R1,Fact.z 3 Q1,Fact.z 3 R1,Fact.z0 W1.heap.size 32,Fact.z0 W1.heap.size 32] [11,12] (by kernel_rfl) (by kernel_rfl) rfl ⟨?o0,?o1,?o2,?o3,?o4,?o5,?o6,?o7,?o8,?o9,?o10,?o11,?o12,trivial⟩ ?late (fun d _ _ _ _ h=>by cases d<;>exact h) ?after
 case o0=>(refine oQF rfl ?_;intro ρ w1 R hcon hfn hρ hb hp hR;have e3:ρ (.tmp 3)=.pointer (some ⟨w.heap.size,0,none⟩):=hρ.tmp 3 rfl;replace hR:=fun v w2 h1 h2=>hR v w2 h1 h2 (fun h=>absurd h (by decide));clear hρ hp;unfold OpRun;go_simp;exact hR _ _ (Below.refl _ _) rfl)
 case o1=>(refine oQF rfl ?_;intro ρ w1 R hcon hfn hρ hb hp hR;have e13:ρ (.tmp 13)=_:=hp 0 13 rfl rfl;obtain ⟨⟨q0,q1,q2,q3⟩,-⟩:=zA.below hb;replace hR:=fun v w2 h1 h2=>hR v w2 h1 h2 (fun h=>absurd h (by decide));clear hρ hp;unfold OpRun;go_simp;exact hR _ _ (Below.refl _ _) ⟨a0,c0,rfl,H0.out.below (below_trans yb1 hb)⟩)
 case o2=>(refine oQF rfl ?_;intro ρ w1 R hcon hfn hρ hb hp hR;have e2:ρ (.tmp 2)=.int .i64 (pl:Int):=hρ.tmp 2 rfl;replace hR:=fun v w2 h1 h2=>hR v w2 h1 h2 (fun h=>absurd h (by decide));clear hρ hp;unfold OpRun;go_simp;exact hR _ _ (Below.refl _ _) rfl)
 case o3=>(refine oQF rfl ?_;intro ρ w1 R hcon hfn hρ hb hp hR;have e15:ρ (.tmp 15)=_:=hp 2 15 rfl rfl;replace hR:=fun v w2 h1 h2=>hR v w2 h1 h2 (fun h=>absurd h (by decide));clear hρ hp;unfold OpRun;go_simp;(refine (ZP.out _).mono ?_;rintro e wn ⟨v9,rfl,hv9,hbn⟩;exact ⟨_,rfl,hR _ _ hbn hv9⟩))
 case o4=>(refine oQF rfl ?_;intro ρ w1 R hcon hfn hρ hb hp hR;have f14:=hp 1 14 rfl rfl;have f16:=hp 3 16 rfl rfl;replace hR:=fun v w2 h1 h2=>hR v w2 h1 h2 (fun h=>absurd h (by decide));clear hρ hp;unfold OpRun;go_simp;(refine (M1.out _ _ _ f14 f16).mono ?_;rintro e wn ⟨v9,rfl,hv9,hbn⟩;exact ⟨_,rfl,hR _ _ hbn hv9⟩))
 case o5=>(refine oQF rfl ?_;intro ρ w1 R hcon hfn hρ hb hp hR;have e1:ρ (.tmp 1)=.int .i64 (t:Int):=hρ.tmp 1 rfl;replace hR:=fun v w2 h1 h2=>hR v w2 h1 h2 (fun h=>absurd h (by decide));clear hρ hp;unfold OpRun;go_simp;exact hR _ _ (Below.refl _ _) rfl)
 case o6=>(refine oQF rfl ?_;intro ρ w1 R hcon hfn hρ hb hp hR;have e18:ρ (.tmp 18)=_:=hp 5 18 rfl rfl;replace hR:=fun v w2 h1 h2=>hR v w2 h1 h2 (fun h=>absurd h (by decide));clear hρ hp;unfold OpRun;go_simp;(refine (TN.out _).mono ?_;rintro e wn ⟨v9,rfl,hv9,hbn⟩;exact ⟨_,rfl,hR _ _ hbn hv9⟩))
 case o7=>(refine oQF rfl ?_;intro ρ w1 R hcon hfn hρ hb hp hR;have f17:=hp 4 17 rfl rfl;have f19:=hp 6 19 rfl rfl;replace hR:=fun v w2 h1 h2=>hR v w2 h1 h2 (fun h=>absurd h (by decide));clear hρ hp;unfold OpRun;go_simp;(refine (D1.out _ _ _ f17 f19).mono ?_;rintro e wn ⟨v9,rfl,hv9,hbn⟩;exact ⟨_,rfl,hR _ _ hbn hv9⟩))
 case o8=>(refine oQF rfl ?_;intro ρ w1 R hcon hfn hρ hb hp hR;have f20:=hp 7 20 rfl rfl;replace hR:=fun v w2 h1 h2=>hR v w2 h1 h2 (fun h=>absurd h (by decide));clear hρ hp;unfold OpRun;go_simp;exact hR _ _ (Below.refl _ _) f20)
 case o9=>(refine oQF rfl ?_;intro ρ w1 R hcon hfn hρ hb hp hR;have f12:=hp 8 12 rfl rfl;obtain ⟨a97,b97,e97,h97,k97⟩:=ZD2.parts f12;replace hR:=fun v w2 h1 h2=>hR v w2 h1 h2 (fun h=>absurd h (by decide));clear hρ hp;unfold OpRun;go_simp;exact hR _ _ (Below.refl _ _) h97)
 case o10=>(refine oQF rfl ?_;intro ρ w1 R hcon hfn hρ hb hp hR;have f12:=hp 8 12 rfl rfl;obtain ⟨a97,b97,e97,h97,k97⟩:=ZD2.parts f12;replace hR:=fun v w2 h1 h2=>hR v w2 h1 h2 (fun h=>absurd h (by decide));clear hρ hp;unfold OpRun;go_simp;exact hR _ _ (Below.refl _ _) k97)
 case o11=>(refine oQF rfl ?_;intro ρ w1 R hcon hfn hρ hb hp hR;clear hρ hp;unfold OpRun;go_simp;exact hR _ _ (below_alloc _ _) ⟨_,rfl,hb.size,ZL.made rfl⟩ (fun _=>⟨_,rfl,Nat.le_refl _,by simp⟩))
 case o12=>(refine oQF rfl ?_;intro ρ w1 R hcon hfn hρ hb hp hR;clear hρ hp;unfold OpRun;go_simp;exact hR _ _ (below_alloc _ _) ⟨_,rfl,hb.size,ZL.made rfl⟩ (fun _=>⟨_,rfl,Nat.le_refl _,by simp⟩))
 case late=>
  intro o ho
  simp only [List.getElem?_cons_succ,List.getElem?_cons_zero,Option.some.injEq] at ho
  subst ho
  refine ⟨rfl,?_⟩
  intro ρ w1 hρ hb hp
  have f12:=hp 8 12 rfl rfl
  obtain ⟨a97,b97,e97,h97,k97⟩:=ZD2.parts f12
  refine ⟨_,?_,k97⟩
  intro w2
  have hcon:=hρ.con
  go_simp
  try rfl
 case after=>
  intro u wn hb hf hd
  have f21:=hf 9 21 (by omega) rfl
  have f22:=hf 10 22 (by omega) rfl
  have f8:=hf 11 8 (by omega) rfl
  have f9:=hf 12 9 (by omega) rfl
  have d8_9:u 8≠u 9:=hd 11 12 8 9 (by omega) (by omega) (by omega) rfl rfl rfl rfl
  clear hf hd
  simp only [putAll,Act.put,List.setIfInBounds_toArray,List.set_cons_zero,List.set_cons_succ,List.drop_succ_cons,List.drop_zero,List.drop_nil]
  obtain ⟨xa1,xc1,xe1,xn1⟩:=f21
  obtain ⟨xa2,xc2,xe2,xn2⟩:=f22
  obtain ⟨gv8,eg1,hg1,zz1⟩:=f8
  obtain ⟨gv9,eg2,hg2,zz2⟩:=f9
  have gne:gv8≠gv9:=by intro h;apply d8_9;rw [eg1,eg2,h]
  rw [xe1,xe2,eg1,eg2]
  clear xe1 xe2 eg1 eg2 d8_9
  have zst:=zv_store2 (by decide) hb hg1 hg2 gne zz1 zz2 xn1 xn2
  obtain ⟨k0,k1,kf0,kf1,-⟩:=id zz1
  obtain ⟨l0,l1,lf0,lf1,-⟩:=id zz2
  go_upto_region 2 with fail
  clear k0 k1 kf0 kf1 l0 l1 lf0 lf1 zz1 zz2 xn1 xn2 hb
  refine wp_worldZ (fun WW=>Below _ _ WW∧ZV _ _ WW _ _∧ZV _ _ WW _ _) zst ?_
  clear zst
  intro W2 ⟨y2,z8,z9⟩
  replace yb1:=below_trans yb1 y2
  replace zA:=zA.below y2
  replace zR:=zR.below y2
  clear y2 hg1 hg2 gne z9 M1 D1
  refine wp_region_growL 13 10 [24,25,26,27,28,29,30,31,23,32,33,10,11] [Fact.is (.pointer (some ⟨w.heap.size,2,none⟩)),Fact.z 3 x2,Fact.is (.int .i64 (pl:Int)),Fact.z 3 W,Fact.z 3 P2,Fact.is (.int .i64 (t:Int)),Fact.z 3 T,Fact.z2 3 Q2 R2,Fact.z2 3 Q2 R2,Fact.z 3 Q2,Fact.z 3 R2,Fact.z0 W2.heap.size 32,Fact.z0 W2.heap.size 32] [11,12] (by kernel_rfl) (by kernel_rfl) rfl ⟨?o0,?o1,?o2,?o3,?o4,?o5,?o6,?o7,?o8,?o9,?o10,?o11,?o12,trivial⟩ ?late (fun d _ _ _ _ h=>by cases d<;>exact h) ?after
  case o0=>(refine oQF rfl ?_;intro ρ w1 R hcon hfn hρ hb hp hR;have e3:ρ (.tmp 3)=.pointer (some ⟨w.heap.size,0,none⟩):=hρ.tmp 3 rfl;replace hR:=fun v w2 h1 h2=>hR v w2 h1 h2 (fun h=>absurd h (by decide));clear hρ hp;unfold OpRun;go_simp;exact hR _ _ (Below.refl _ _) rfl)
  case o1=>(refine oQF rfl ?_;intro ρ w1 R hcon hfn hρ hb hp hR;have e24:ρ (.tmp 24)=_:=hp 0 24 rfl rfl;obtain ⟨⟨q0,q1,q2,q3⟩,-⟩:=zA.below hb;replace hR:=fun v w2 h1 h2=>hR v w2 h1 h2 (fun h=>absurd h (by decide));clear hρ hp;unfold OpRun;go_simp;exact hR _ _ (Below.refl _ _) ⟨a1,c1,rfl,H1.out.below (below_trans yb1 hb)⟩)
  case o2=>(refine oQF rfl ?_;intro ρ w1 R hcon hfn hρ hb hp hR;have e2:ρ (.tmp 2)=.int .i64 (pl:Int):=hρ.tmp 2 rfl;replace hR:=fun v w2 h1 h2=>hR v w2 h1 h2 (fun h=>absurd h (by decide));clear hρ hp;unfold OpRun;go_simp;exact hR _ _ (Below.refl _ _) rfl)
  case o3=>(refine oQF rfl ?_;intro ρ w1 R hcon hfn hρ hb hp hR;have e26:ρ (.tmp 26)=_:=hp 2 26 rfl rfl;replace hR:=fun v w2 h1 h2=>hR v w2 h1 h2 (fun h=>absurd h (by decide));clear hρ hp;unfold OpRun;go_simp;(refine (ZP.out _).mono ?_;rintro e wn ⟨v9,rfl,hv9,hbn⟩;exact ⟨_,rfl,hR _ _ hbn hv9⟩))
  case o4=>(refine oQF rfl ?_;intro ρ w1 R hcon hfn hρ hb hp hR;have f25:=hp 1 25 rfl rfl;have f27:=hp 3 27 rfl rfl;replace hR:=fun v w2 h1 h2=>hR v w2 h1 h2 (fun h=>absurd h (by decide));clear hρ hp;unfold OpRun;go_simp;(refine (M2.out _ _ _ f25 f27).mono ?_;rintro e wn ⟨v9,rfl,hv9,hbn⟩;exact ⟨_,rfl,hR _ _ hbn hv9⟩))
  case o5=>(refine oQF rfl ?_;intro ρ w1 R hcon hfn hρ hb hp hR;have e1:ρ (.tmp 1)=.int .i64 (t:Int):=hρ.tmp 1 rfl;replace hR:=fun v w2 h1 h2=>hR v w2 h1 h2 (fun h=>absurd h (by decide));clear hρ hp;unfold OpRun;go_simp;exact hR _ _ (Below.refl _ _) rfl)
  case o6=>(refine oQF rfl ?_;intro ρ w1 R hcon hfn hρ hb hp hR;have e29:ρ (.tmp 29)=_:=hp 5 29 rfl rfl;replace hR:=fun v w2 h1 h2=>hR v w2 h1 h2 (fun h=>absurd h (by decide));clear hρ hp;unfold OpRun;go_simp;(refine (TN.out _).mono ?_;rintro e wn ⟨v9,rfl,hv9,hbn⟩;exact ⟨_,rfl,hR _ _ hbn hv9⟩))
  case o7=>(refine oQF rfl ?_;intro ρ w1 R hcon hfn hρ hb hp hR;have f28:=hp 4 28 rfl rfl;have f30:=hp 6 30 rfl rfl;replace hR:=fun v w2 h1 h2=>hR v w2 h1 h2 (fun h=>absurd h (by decide));clear hρ hp;unfold OpRun;go_simp;(refine (D2.out _ _ _ f28 f30).mono ?_;rintro e wn ⟨v9,rfl,hv9,hbn⟩;exact ⟨_,rfl,hR _ _ hbn hv9⟩))
  case o8=>(refine oQF rfl ?_;intro ρ w1 R hcon hfn hρ hb hp hR;have f31:=hp 7 31 rfl rfl;replace hR:=fun v w2 h1 h2=>hR v w2 h1 h2 (fun h=>absurd h (by decide));clear hρ hp;unfold OpRun;go_simp;exact hR _ _ (Below.refl _ _) f31)
  case o9=>(refine oQF rfl ?_;intro ρ w1 R hcon hfn hρ hb hp hR;have f23:=hp 8 23 rfl rfl;obtain ⟨a97,b97,e97,h97,k97⟩:=ZD2.parts f23;replace hR:=fun v w2 h1 h2=>hR v w2 h1 h2 (fun h=>absurd h (by decide));clear hρ hp;unfold OpRun;go_simp;exact hR _ _ (Below.refl _ _) h97)
  case o10=>(refine oQF rfl ?_;intro ρ w1 R hcon hfn hρ hb hp hR;have f23:=hp 8 23 rfl rfl;obtain ⟨a97,b97,e97,h97,k97⟩:=ZD2.parts f23;replace hR:=fun v w2 h1 h2=>hR v w2 h1 h2 (fun h=>absurd h (by decide));clear hρ hp;unfold OpRun;go_simp;exact hR _ _ (Below.refl _ _) k97)
  case o11=>(refine oQF rfl ?_;intro ρ w1 R hcon hfn hρ hb hp hR;clear hρ hp;unfold OpRun;go_simp;exact hR _ _ (below_alloc _ _) ⟨_,rfl,hb.size,ZL.made rfl⟩ (fun _=>⟨_,rfl,Nat.le_refl _,by simp⟩))
  case o12=>(refine oQF rfl ?_;intro ρ w1 R hcon hfn hρ hb hp hR;clear hρ hp;unfold OpRun;go_simp;exact hR _ _ (below_alloc _ _) ⟨_,rfl,hb.size,ZL.made rfl⟩ (fun _=>⟨_,rfl,Nat.le_refl _,by simp⟩))
  case late=>
   intro o ho
   simp only [List.getElem?_cons_succ,List.getElem?_cons_zero,Option.some.injEq] at ho
   subst ho
   refine ⟨rfl,?_⟩
   intro ρ w1 hρ hb hp
   have f23:=hp 8 23 rfl rfl
   obtain ⟨a97,b97,e97,h97,k97⟩:=ZD2.parts f23
   refine ⟨_,?_,k97⟩
   intro w2
   have hcon:=hρ.con
   go_simp
   try rfl
  case after=>
   intro u wn hb hf hd
   have f32:=hf 9 32 (by omega) rfl
   have f33:=hf 10 33 (by omega) rfl
   have f10:=hf 11 10 (by omega) rfl
   have f11:=hf 12 11 (by omega) rfl
   have d10_11:u 10≠u 11:=hd 11 12 10 11 (by omega) (by omega) (by omega) rfl rfl rfl rfl
   clear hf hd
   simp only [putAll,Act.put,List.setIfInBounds_toArray,List.set_cons_zero,List.set_cons_succ,List.drop_succ_cons,List.drop_zero,List.drop_nil]
   obtain ⟨xa1,xc1,xe1,xn1⟩:=f32
   obtain ⟨xa2,xc2,xe2,xn2⟩:=f33
   obtain ⟨gv10,eg1,hg1,zz1⟩:=f10
   obtain ⟨gv11,eg2,hg2,zz2⟩:=f11
   have gne:gv10≠gv11:=by intro h;apply d10_11;rw [eg1,eg2,h]
   rw [xe1,xe2,eg1,eg2]
   clear xe1 xe2 eg1 eg2 d10_11
   have zst:=zv_store2 (by decide) hb hg1 hg2 gne zz1 zz2 xn1 xn2
   obtain ⟨k0,k1,kf0,kf1,-⟩:=id zz1
   obtain ⟨l0,l1,lf0,lf1,-⟩:=id zz2
   go_upto_region 3 with fail
   clear k0 k1 kf0 kf1 l0 l1 lf0 lf1 zz1 zz2 xn1 xn2 hb
   refine wp_worldZ (fun WW=>Below _ _ WW∧ZV _ _ WW _ _∧ZV _ _ WW _ _) zst ?_
   clear zst
   intro W3 ⟨y3,z10,z11⟩
   replace yb1:=below_trans yb1 y3
   replace zR:=zR.below y3
   replace z8:=z8.below y3
   clear y3 hg1 hg2 gne z11 M2 D2 zA TN ZP
   refine wp_region_growL 5 4 [34,35,36,37,38] [Fact.z 3 (Q1),Fact.z 3 (Q1),Fact.z 3 (Q2),Fact.is (.int .i64 (cmpI (Q1) (Q2))),Fact.is (.bool b)] [] (by kernel_rfl) (by kernel_rfl) rfl ⟨?o0,?o1,?o2,?o3,?o4,trivial⟩ ?late (fun d _ _ _ _ h=>by cases d<;>exact h) ?after
   case o0=>(refine oQF rfl ?_;intro ρ w1 R hcon hfn hρ hb hp hR;have e8:ρ (.tmp 8)=.pointer (some ⟨gv8,0,none⟩):=hρ.tmp 8 rfl;obtain ⟨ya9,yc9,yj9,yn9⟩:=ZV.below z8 hb;obtain ⟨j90,j91,-⟩:=yj9;replace hR:=fun v w2 h1 h2=>hR v w2 h1 h2 (fun h=>absurd h (by decide));clear hρ hp;unfold OpRun;go_simp;exact hR _ _ (Below.refl _ _) ⟨ya9,yc9,rfl,yn9⟩)
   case o1=>(refine oQF rfl ?_;intro ρ w1 R hcon hfn hρ hb hp hR;have e8:ρ (.tmp 8)=.pointer (some ⟨gv8,0,none⟩):=hρ.tmp 8 rfl;obtain ⟨ya9,yc9,yj9,yn9⟩:=ZV.below z8 hb;obtain ⟨j90,j91,-⟩:=yj9;replace hR:=fun v w2 h1 h2=>hR v w2 h1 h2 (fun h=>absurd h (by decide));clear hρ hp;unfold OpRun;go_simp;exact hR _ _ (Below.refl _ _) ⟨ya9,yc9,rfl,yn9⟩)
   case o2=>(refine oQF rfl ?_;intro ρ w1 R hcon hfn hρ hb hp hR;have e10:ρ (.tmp 10)=.pointer (some ⟨gv10,0,none⟩):=hρ.tmp 10 rfl;obtain ⟨ya9,yc9,yj9,yn9⟩:=ZV.below z10 hb;obtain ⟨j90,j91,-⟩:=yj9;replace hR:=fun v w2 h1 h2=>hR v w2 h1 h2 (fun h=>absurd h (by decide));clear hρ hp;unfold OpRun;go_simp;exact hR _ _ (Below.refl _ _) ⟨ya9,yc9,rfl,yn9⟩)
   case o3=>(refine oQF rfl ?_;intro ρ w1 R hcon hfn hρ hb hp hR;have f35:=hp 1 35 rfl rfl;have f36:=hp 2 36 rfl rfl;replace hR:=fun v w2 h1 h2=>hR v w2 h1 h2 (fun h=>absurd h (by decide));clear hρ hp;unfold OpRun;go_simp;(refine (zcmpD _ _ _ _ _ f35 f36).mono ?_;rintro e wn ⟨rfl,hbn⟩;exact ⟨_,rfl,hR _ _ hbn rfl⟩))
   case o4=>(refine oQF rfl ?_;intro ρ w1 R hcon hfn hρ hb hp hR;have e37:ρ (.tmp 37)=_:=hp 3 37 rfl rfl;have hb9:=HB.out;have hb8:=HB2.out;replace hR:=fun v w2 h1 h2=>hR v w2 h1 h2 (fun h=>absurd h (by decide));clear hρ hp;unfold OpRun;go_simp;exact hR _ _ (Below.refl _ _) rfl)
   case late=>
    intro o ho
    simp only [List.getElem?_cons_succ,List.getElem?_cons_zero,Option.some.injEq] at ho
    subst ho
    refine ⟨rfl,?_⟩
    intro ρ w1 hρ hb hp
    have f37:=hp 3 37 rfl rfl
    have hb9:=HB.out;have hb8:=HB2.out;have e37:ρ (Operand.tmp 37)=.int .i64 (cmpI Q1 Q2):=f37
    refine ⟨_,?_,rfl⟩
    intro w2
    have hcon:=hρ.con
    go_simp
    try rfl
   case after=>
    intro u wn hb hf hd
    have f34:=hf 0 34 (by omega) rfl
    have e38:u 38=_:=hf 4 38 (by omega) rfl
    clear hf hd
    simp only [putAll,Act.put,List.setIfInBounds_toArray,List.set_cons_zero,List.set_cons_succ,List.drop_succ_cons,List.drop_zero,List.drop_nil]
    rw [e38]
    obtain ⟨a34,c34,e34,m1⟩:=f34
    rw [e34]
    clear e34
    replace yb1:=below_trans yb1 hb
    obtain ⟨k0,k1,f0,f1,s8⟩:=zR.below hb
    clear hb z8 z10 zR
    go_wp2_with fail
    refine bodyPost_ret (by simp [results,Tryd.results62,go_sem,k0,k1];try rfl) rfl ?_
    exact ⟨_,rfl,⟨a34,c34,rfl,m1.st2 s8 (by decide) _ _⟩,(yb1.setCell (by first|omega|(simp;done)|(simp;omega)) _).setCell (by first|omega|(simp;done)|(simp;omega)) _⟩
end Go.Proofs.YtehhegbkahnhgaaDoor
namespace Go.Ulp
open Go.RowKit
def fo (x:Int) (t pl:Nat):Int:=x*pw pl/tenZ t
theorem fo_bd {x:Int} {t pl:Nat} (h:x.natAbs≤10^(t+1650)) (hpl:pl≤1300):(fo x t pl).natAbs<2^8000:=by
 obtain ⟨z,hz⟩: ∃z,z=1650:=⟨_,rfl⟩
 obtain ⟨b,hb⟩: ∃b,b=7900:=⟨_,rfl⟩
 obtain ⟨c,hc⟩: ∃c,c=8000:=⟨_,rfl⟩
 rw [←hz] at h
 rw [←hc]
 have hT:(0:Int)<tenZ t:=by have:=Nat.pow_pos (n:=t) (show 0<10 by omega);unfold tenZ;omega
 have hB:(x*pw pl).natAbs≤10^t*(10^z*2^pl):=by
  rw [natAbs_mul_pw,←Nat.mul_assoc,←Nat.pow_add];exact Nat.mul_le_mul_right _ h
 have hC:10^z*2^pl≤2^b:=by
  have e1:(10:Nat)^z≤(2^4)^z:=Nat.pow_le_pow_left (by omega) _
  rw [←Nat.pow_mul] at e1
  refine Nat.le_trans (Nat.mul_le_mul e1 (Nat.le_refl _)) ?_
  rw [←Nat.pow_add]
  exact Nat.pow_le_pow_right (by omega) (by omega)
 have hB2:(x*pw pl).natAbs≤10^t*2^b:=Nat.le_trans hB (Nat.mul_le_mul_left _ hC)
 have hlt:(2:Nat)^b+2^b≤2^c:=by
  rw [←Nat.mul_two,←Nat.pow_succ];exact Nat.pow_le_pow_right (by omega) (by omega)
 have hp:0<2^b:=Nat.two_pow_pos _
 unfold fo
 generalize x*pw pl=y at *
 have hT2:tenZ t=((10^t:Nat):Int):=rfl
 rw [hT2] at hT ⊢
 generalize 10^t=T at *
 generalize (2:Nat)^b=A at *
 generalize (2:Nat)^c=C at *
 have u1:y/(T:Int)≤(A:Int):=by
  apply Int.ediv_le_of_le_mul hT
  have:(y:Int)≤((T*A:Nat):Int):=by omega
  rw [Int.natCast_mul,Int.mul_comm] at this
  exact this
 have u2: -(A:Int)≤y/(T:Int):=by
  apply Int.le_ediv_of_mul_le hT
  have: -((T*A:Nat):Int)≤y:=by omega
  rw [Int.natCast_mul,Int.mul_comm] at this
  rw [Int.neg_mul]
  exact this
 omega
def RetFl (ti:TypeId) (w:World) (Good:Nat→Int×Int→Prop) (pl:Nat) (en:Ending) (w':World):Prop:= ∃t x,Good t x∧fo x.1 t pl=fo x.2 t pl∧RetQD ti w (nrm (fo x.1 t pl) (-(pl:Int))) 9300 1300 en w'
def RetGI (ti:TypeId) (w:World) (Good:Nat→Int×Int→Prop) (t:Nat) (en:Ending) (w':World):Prop:= ∃x,Good t x∧RetPI ti w x en w'
def GoodI (Good:Nat→Int×Int→Prop) (pl:Nat):Prop:=(∀t x,Good t x→x.1.natAbs≤10^(t+1650)∧x.2.natAbs≤10^(t+1650))∧ ∀t x,Good t x→2900000000≤t→fo x.1 t pl=fo x.2 t pl
end Go.Ulp
namespace Go.Proofs.YtehhegbkahnhgaaDoor
open Go.RowKit Go.Ulp
set_option maxHeartbeats 4000000
set_option maxRecDepth 100000
theorem floored_any (pl fn:Nat) (cp:Value) (Good:Nat→Int×Int→Prop) (w:World) (hpl:pl≤1300) (hfn: ∀(p:Int) w,Sem.run Tryd.prog (callFunc fn #[.int .i64 p,cp]) w=.ok (.enter fn #[.int .i64 p,cp]) w)
 (hG:GoodI Good pl) (hC: ∀(t:Nat) w',20≤t→t≤3000000000→Below w.heap.size w w'→Calls Tryd.prog fn #[.int .i64 (t:Int),cp] w' (RetGI 3 w' Good t)):
 Calls Tryd.prog 36 #[.int .i64 (pl:Int),.func (.func fn) #[] #[cp]] w (RetFl 3 w Good pl):=by
 obtain ⟨hG1,hG2⟩:=hG
 have HC:=hid hC
 have HG1:=hid hG1
 have HG2:=hid hG2
 have FO:=hid (show ∀(x:Int×Int) (t:Nat) v w,PI 3 w x v→t≤3000000000→Good t x→Calls Tryd.prog 62 #[v,.int .i64 (t:Int),.int .i64 (pl:Int)] w (RetFO 3 w (fo x.1 t pl) (decide (fo x.1 t pl=fo x.2 t pl))) from fun x t v w h ht hg=>floorOf_any x t pl v w h ht hpl (hG1 t x hg).1 (hG1 t x hg).2)
 have QM:=hid (show ∀a c (x:Int) w,Nz 3 w a c (zl x)→x.natAbs<2^8000→Calls Tryd.prog 10 #[.agg #[.bool (zneg x),.slice a (zl x).length c],.int .i64 (-(pl:Int))] w fun e w'=>RetQD 3 w (nrm x (-(pl:Int))) 9300 1300 e w' from fun a c x w h hx=>(qmake_any a c x (-(pl:Int)) 8000 1300 w h hx (by omega) (by omega) (by omega)).mono (fun _ _ h=>h.weak (by omega) (by omega)))
 have HR:=hid (show ∀t x en w',Good t x→fo x.1 t pl=fo x.2 t pl→RetQD 3 w (nrm (fo x.1 t pl) (-(pl:Int))) 9300 1300 en w'→RetFl 3 w Good pl en w' from fun t x en w' h1 h2 h3=>⟨t,x,h1,h2,h3⟩)
 have wN:IntKind.i64.wrap (-(pl:Int))= -(pl:Int):=IntWalk.i64_in _ (by omega)
 obtain ⟨q3,hq3⟩: ∃q,q=pl/3:=⟨_,rfl⟩
 have e3:(pl:Int)/3=(q3:Int):=by omega
 have w3:IntKind.i64.wrap ((q3:Int)+20)=(q3:Int)+20:=IntWalk.i64_in _ (by omega)
 have hq4:q3≤1300:=by omega
 have yb0:=below_alloc w (.cells #[.bool false,.slice none 0 0,.int .i64 0] 34)
 have zR:QL 34 (w.alloc (.cells #[.bool false,.slice none 0 0,.int .i64 0] 34)) w.heap.size false (.slice none 0 0) 0:=QL.made rfl
 clear hC hG1 hG2 hq3
 go_enter Tryd.func36,Tryd.ntmps36
 go_wp2_with fail
 go_loopw [5] (fun s5 wr=> ∃t:Nat,s5=.int .i64 (t:Int)∧20≤t∧t≤2900000030∧Below w.heap.size w wr∧QL 34 wr w.heap.size false (.slice none 0 0) 0) (fun s5 _=>3000000001-(intOf s5).toNat)
 case atStart=>exact ⟨q3+20,by go_num,by omega,by omega,yb0,zR⟩
 case round=>
 obtain ⟨t,rfl,ht1,ht2,yr,zr⟩:=hrel
 clear zR yb0 e3 w3 hq4
 have HC1:=hid (fun w' hb=>HC.out t w' ht1 (by omega) hb)
 have hfn1:=hfn (t:Int)
 go_upto_region 4 with (first
  |(go_at_call 62;(with_reducible refine (FO.out x t _ _ hv1 (by omega) hgd).mono ?_);rintro en w2 ⟨v2,rfl,⟨a2,c2,rfl,m2⟩,hb2⟩)
  |((with_reducible refine (HC1.out _ yr).mono ?_);rintro en w1 ⟨x,hgd,v1,rfl,hv1,hb1⟩))
 have HZ:=hid (show (fo x.1 t pl).natAbs<2^8000 from fo_bd (HG1.out t x hgd).1 hpl)
 have HGD:=hid hgd
 have HEQ:=hid (show 2900000000≤t→fo x.1 t pl=fo x.2 t pl from HG2.out t x hgd)
 have HR1:=hid (fun en w' h h2=>HR.out t x en w' hgd h h2)
 clear hgd HR hfn1 HC1
 generalize fo x.1 t pl=Z at *
 generalize fo x.2 t pl=Z2 at *
 refine wp_worldZ (fun WW=>Below w.heap.size w WW∧QL 34 WW w.heap.size false (.slice none 0 0) 0∧ZL 32 WW w2.heap.size (zneg Z) (.slice a2 (zl Z).length c2)∧Nz 3 WW a2 c2 (zl Z)) ⟨below_trans (below_trans (below_trans yr hb1) hb2) (below_alloc _ _),((zr.below hb1).below hb2).alloc _,ZL.made rfl,m2.below (below_alloc _ _)⟩ ?_
 obtain ⟨g6,hg6⟩: ∃g,g=w2.heap.size:=⟨_,rfl⟩
 rw [←hg6]
 clear hb1 hb2 zr yr hv1 m2 hg6
 intro W2 ⟨yr,zr,z6,m2⟩
 obtain ⟨i0,i1,-⟩:=id z6
 by_cases hEq:Z=Z2
 ·have HE:=hid hEq
  rw [decide_eq_true hEq]
  clear hEq HEQ
  go_wp2_with (go_at_call 10;(with_reducible refine (QM.out a2 c2 Z _ m2 HZ.out).mono ?_);rintro en w3 ⟨v3,rfl,⟨X3,n3,a3,c3,rfl,m3,hD3,hX3,hn3⟩,hb3⟩;have HD3:=hid hD3;have zr3:=zr.below hb3;obtain ⟨⟨k0,k1,f0,f1,hs2⟩,k2,f2⟩:=id zr3;clear hD3)
  refine bodyPost_ret (by simp [results,Tryd.results36,go_sem,k0,k1,k2];try rfl) rfl ?_
  exact HR1.out _ _ HE.out ⟨_,rfl,⟨X3,n3,a3,c3,rfl,m3.set3Q zr3 (by decide) _ _ _,HD3.out,hX3,hn3⟩,Go.Ulp.Below.put3 (below_trans yr hb3) (Nat.le_refl _) _ _ _⟩
 ·have htn:t<2900000000:=Nat.lt_of_not_le fun h=>hEq (HEQ.out h)
  have wP:IntKind.i64.wrap ((t:Int)+30)=(t:Int)+30:=IntWalk.i64_in _ (by omega)
  rw [decide_eq_false hEq]
  clear hEq HEQ
  go_wp2_with fail
  go_roundw
  case rel=>exact ⟨t+30,by go_num,by omega,by omega,yr,zr⟩
  case measure=>simp [intOf];omega
end Go.Proofs.YtehhegbkahnhgaaDoor
namespace Go.Ulp
open Go.RowKit
end Go.Ulp
namespace Go.Proofs.YtehhegbkahnhgaaDoor
open Go.RowKit Go.Ulp
set_option maxHeartbeats 1000000
set_option maxRecDepth 100000
end Go.Proofs.YtehhegbkahnhgaaDoor
namespace Go.Ulp
open Go.RowKit
end Go.Ulp
namespace Go.Proofs.YtehhegbkahnhgaaDoor
open Go.RowKit Go.Ulp
set_option maxHeartbeats 1000000
set_option maxRecDepth 100000
end Go.Proofs.YtehhegbkahnhgaaDoor
namespace Go.Ulp
open Go.RowKit
def Fact.dy (neg:Bool) (m:Nat) (x:Int):Fact:=⟨fun v w=> ∃am cm,v=.agg #[.bool neg,.slice am (limbs m).length cm,.int .i64 x]∧Ns .u32 w am cm (limbs m),fun _ _ _ h hb=>by
 obtain ⟨am,cm,h1,h2⟩:=h
 exact ⟨am,cm,h1,h2.below hb⟩⟩
end Go.Ulp
namespace Go.Proofs.YtehhegbkahnhgaaDoor
open Go.RowKit Go.Ulp
set_option maxHeartbeats 1000000
set_option maxRecDepth 100000
end Go.Proofs.YtehhegbkahnhgaaDoor
namespace Go.Ulp
open Go.RowKit
end Go.Ulp
namespace Go.Proofs.YtehhegbkahnhgaaDoor
open Go.RowKit Go.Ulp
set_option maxHeartbeats 1000000
set_option maxRecDepth 100000
end Go.Proofs.YtehhegbkahnhgaaDoor
namespace Go.Ulp
end Go.Ulp
namespace Go.Proofs.YtehhegbkahnhgaaDoor
open Go.RowKit Go.Ulp
set_option maxHeartbeats 1000000
set_option maxRecDepth 100000
end Go.Proofs.YtehhegbkahnhgaaDoor
namespace Go.Ulp
open Go.RowKit
theorem tdiv2 (x:Int): ∃a c:Int,x.tdiv 2=a∧x.tmod 2=c∧x=2*a+c∧ -1≤c∧c≤1:=by
 refine ⟨x.tdiv 2,x.tmod 2,rfl,rfl,?_,?_,?_⟩
 ·exact (Int.mul_tdiv_add_tmod x 2).symm
 ·have:=Int.tmod_lt_of_pos x (show (0:Int)<2 by omega)
  have h2:=Int.lt_tmod_of_pos x (show (0:Int)<2 by omega)
  omega
 ·have:=Int.tmod_lt_of_pos x (show (0:Int)<2 by omega)
  omega
end Go.Ulp
namespace Go.Proofs.YtehhegbkahnhgaaDoor
open Go.RowKit Go.Ulp
set_option maxHeartbeats 1000000
set_option maxRecDepth 100000
end Go.Proofs.YtehhegbkahnhgaaDoor
namespace Go.Ulp
open Go.RowKit
theorem QD.zero {t:TypeId} {w:World} {A T:Nat} (hA:0<A):QD t w (0,0) A T (.agg #[.bool false,.slice none 0 0,.int .i64 0]):=
 ⟨0,0,none,0,rfl,Nz.nil' _ _ (by unfold maxLen;omega),rfl,Nat.two_pow_pos A,Nat.zero_le _⟩
end Go.Ulp
namespace Go.Proofs.YtehhegbkahnhgaaDoor
open Go.RowKit Go.Ulp
set_option maxHeartbeats 1000000
set_option maxRecDepth 100000
end Go.Proofs.YtehhegbkahnhgaaDoor
namespace Go.Ulp
open Go.RowKit
end Go.Ulp
namespace Go.Proofs.YtehhegbkahnhgaaDoor
open Go.RowKit Go.Ulp
set_option maxHeartbeats 1000000
set_option maxRecDepth 100000
end Go.Proofs.YtehhegbkahnhgaaDoor
