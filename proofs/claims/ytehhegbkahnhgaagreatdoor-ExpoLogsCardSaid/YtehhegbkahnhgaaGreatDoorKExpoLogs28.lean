/- ExpoLogs: what the proof leans on, part 28 (Gp24 Si0). -/
import Derived.Test.YtehhegbkahnhgaaGreatDoorKExpoLogs18
import Derived.Test.YtehhegbkahnhgaaGreatDoorKExpoLogs25
set_option linter.unusedVariables false
set_option linter.unusedSimpArgs false
namespace Go.Ulp
def rqP (t:PP) (D:Nat):Nat→PP
 |0=>(0,0)
 |k+1=>rsP t D k
theorem rsP_eq (t:PP) (D:Nat): ∀k,rsP t D k=plP (rqP t D k) (bOv (rpP t D k) (2*k+1))
 |0=>by
  show (t.1/1,t.2/1+1)=(0+t.1/1,0+(t.2/1+1))
  rw [Nat.zero_add,Nat.zero_add]
 |k+1=>rfl
theorem rsP_top {t:PP} {D:Nat} (hD:12≤D) (ht:2*t.2≤D): ∀k,(rsP t D k).2≤(k+1)*(D+1)
 |0=>by show t.2/1+1≤_;rw [Nat.div_one];omega
 |k+1=>by
  have a:=rsP_top hD ht k
  have b:=rpP_le hD ht (k+1)
  have c:(rpP t D (k+1)).2/(2*k+3)≤(rpP t D (k+1)).2:=Nat.div_le_self _ _
  have e:(k+1+1)*(D+1)=(k+1)*(D+1)+(D+1):=Nat.succ_mul _ _
  show (rsP t D k).2+((rpP t D (k+1)).2/(2*k+3)+1)≤_
  omega
structure RtOK (num den t k:Nat):Prop where
 hd:0<den
 h2:2*num≤den
 ln:num≤10^140000
 ld:den≤10^140000
 t0:20≤t
 t1:t≤3000000000
 k1:k≤4*t+1
 e1:(rpP (frB num den (10^t)) (10^t) k).2≤2
 e2: ∀i,i<k→ ¬(rpP (frB num den (10^t)) (10^t) i).2≤2
theorem ten12' {t:Nat} (h:20≤t):12≤10^t:=Nat.le_trans (show 12≤10^20 by decide) (Nat.pow_le_pow_right (by omega) h)
theorem even_ten {t:Nat} (h:1≤t):2*(10^t/2)=10^t:=by
 have:10^t=10^(t-1)*10:=by rw [←Nat.pow_succ];congr 1;omega
 omega
theorem rtOK_ex (num den t:Nat) (hd:0<den) (h2:2*num≤den) (ln:num≤10^140000) (ld:den≤10^140000) (t0:20≤t) (t1:t≤3000000000): ∃k,RtOK num den t k:=by
 obtain ⟨k,a,b,c⟩:=rpP_end (t:=frB num den (10^t)) (D:=10^t) (K:=4*t) (ten12' t0) (frB_half num den _ hd h2 (even_ten (by omega))) (by rw [Nat.pow_mul];exact Nat.pow_le_pow_left (by omega) t)
 exact ⟨k,hd,h2,ln,ld,t0,t1,a,b,c⟩
theorem RtOK.half {num den t k:Nat} (h:RtOK num den t k):2*(frB num den (10^t)).2≤10^t:=frB_half num den _ h.hd h.h2 (even_ten (by have:=h.t0;omega))
theorem RtOK.pw {num den t k:Nat} (h:RtOK num den t k) (i:Nat):(rpP (frB num den (10^t)) (10^t) i).1≤10^t∧(rpP (frB num den (10^t)) (10^t) i).2≤10^t:=by
 obtain ⟨a,b⟩:=frB_w num den (10^t)
 have c:=(rpP_wd (ten12' h.t0) h.half a b i).2
 have d:=rpP_le (ten12' h.t0) h.half i
 omega
theorem RtOK.sq {num den t k:Nat} (h:RtOK num den t k):(bMul (frB num den (10^t)) (frB num den (10^t)) (10^t)).1≤10^t∧(bMul (frB num den (10^t)) (frB num den (10^t)) (10^t)).2≤10^t:=by
 obtain ⟨a,b⟩:=frB_w num den (10^t)
 have c:=bMul_wd (M:=1) (show 0<10^t by have:=ten12' h.t0;omega) a a b b (by have:=h.half;omega) (by have:=h.half;omega)
 have d:=(rpP_top (ten12' h.t0) h.half).1
 have e:=c.2
 omega
theorem RtOK.sm {num den t k:Nat} (h:RtOK num den t k) (i:Nat) (hi:i≤12000000010):(rsP (frB num den (10^t)) (10^t) i).1≤10^(t+12)∧(rsP (frB num den (10^t)) (10^t) i).2≤10^(t+12):=by
 obtain ⟨a,b⟩:=frB_w num den (10^t)
 have t12:=ten12' h.t0
 have c:=(rsP_wd t12 h.half a b i).2
 have d:=rsP_top t12 h.half i
 have e:(i+1)*(10^t+1)≤10^12*10^t:=by
  have f:(i+1)*(10^t+1)≤12000000011*(10^t*2):=Nat.mul_le_mul (by omega) (by omega)
  have g:12000000011*(10^t*2)=24000000022*10^t:=by rw [Nat.mul_comm (10^t),←Nat.mul_assoc]
  have k:24000000022*10^t≤10^12*10^t:=Nat.mul_le_mul_right _ (by decide)
  omega
 have f:10^12*10^t=10^(t+12):=by rw [←Nat.pow_add];congr 1;omega
 omega
theorem RtOK.sq0 {num den t k:Nat} (h:RtOK num den t k): ∀i,i≤12000000010→(rqP (frB num den (10^t)) (10^t) i).1≤10^(t+12)∧(rqP (frB num den (10^t)) (10^t) i).2≤10^(t+12)
 |0,_=>⟨Nat.zero_le _,Nat.zero_le _⟩
 |i+1,hi=>h.sm i (by omega)
open Go.RowKit
theorem frB_cases9 (num den D:Nat):frB num den D=(num*D/den,if num*D%den=0 then num*D/den else num*D/den+1):=rfl
theorem BV.zero {tb ti:TypeId} {w:World}:BV tb ti (w.alloc (.cells #[.bool false,.slice none 0 0,.bool false,.slice none 0 0] tb)) w.heap.size (0,0):=
 ⟨none,0,none,0,BC.made rfl,Nz.nil' none 0 (Nat.zero_le _),Nz.nil' none 0 (Nat.zero_le _)⟩
theorem rtP_twice (s1 s2:Nat):((s1+s1:Nat),(s2+9+(s2+9):Nat))=(2*s1,2*(s2+9)):=by rw [←Nat.two_mul,←Nat.two_mul]
end Go.Ulp
namespace Go.Proofs.YtehhegbkahnhgaaGreatDoor
open Go.RowKit Go.Ulp
set_option maxHeartbeats 4000000
set_option maxRecDepth 100000
theorem bothLn_any (a b t N:Nat) (v u:Value) (w:World) (hv:ZD 3 w (a:Int) v) (hu:ZD 3 w (b:Int) u) (hab:b≤a) (hR:RtOK (a-b) (a+b) t N):
 Calls Tryz.prog 91 #[v,u,.int .i64 (t:Int)] w (RetPZ 3 w (rtP (frB (a-b) (a+b) (10^t)) (10^t) N)):=by
 obtain ⟨a0,c0,rfl,n0⟩:=hv
 obtain ⟨a1,c1,rfl,n1⟩:=hu
 have t0:=hR.t0
 have t1:=hR.t1
 have hN:=hR.k1
 obtain ⟨y9,hy9⟩: ∃y,y=140000:=⟨_,rfl⟩
 have ln:=hR.ln
 have ld:=hR.ld
 rw [←hy9] at ln ld
 have la:=zl_le10 (x:=a) (E:=y9) (by omega)
 have lb:=zl_le10 (x:=b) (E:=y9) (by omega)
 have ln2:=zl_le10 ln
 have ld2:=zl_le10 ld
 have lD:=zl_le10 (x:=10^t) (E:=t) (Nat.le_refl _)
 have lnD:=zl_le10 (mul10 ln (Nat.le_refl (10^t)))
 have TN:=hid (fun w=>zTenN t w (by omega))
 have SB:=hid (show ∀v u w,ZD 3 w (a:Int) v→ZD 3 w (b:Int) u→Calls Tryz.prog 61 #[v,u] w (RetZD 3 w ((a-b:Nat):Int)) from fun v u w h k=>by
  have h:=zsubD v u (a:Int) (b:Int) w h k (by omega) (by omega)
  rw [show ((a:Int)-(b:Int))=((a-b:Nat):Int) by omega] at h
  exact h)
 have AD:=hid (fun v u w h k=>zaddN v u a b w h k (by omega) (by omega))
 have ML:=hid (fun v u w h k=>zmulN v u (a-b) (10^t) w h k (by omega) (by omega))
 have DV:=hid (fun v u w h k=>zdivN v u ((a-b)*10^t) (a+b) w h k (by omega) (by omega) hR.hd)
 have HZ:=frB_cases9 (a-b) (a+b) (10^t)
 have hq:(a-b)*10^t/(a+b)≤10^t:=(hR.pw 0).1
 have UP0:=hid (fun v w h=>up1_any v ((a-b)*10^t/(a+b)) w h (by have:=zl_le10 hq;omega))
 obtain ⟨SQ,hSQ⟩: ∃S,S=bMul (frB (a-b) (a+b) (10^t)) (frB (a-b) (a+b) (10^t)) (10^t):=⟨_,rfl⟩
 have p0:=hR.pw 0
 have psq:=hR.sq
 have BS:=hid (fun v u w h k=>bothMul_any (frB (a-b) (a+b) (10^t)) (frB (a-b) (a+b) (10^t)) t t v u w h k (by omega) (by omega) p0.1 p0.2 p0.1 p0.2)
 have BI:=hid (fun i v u w h k=>bothMul_any (rpP (frB (a-b) (a+b) (10^t)) (10^t) i) (bMul (frB (a-b) (a+b) (10^t)) (frB (a-b) (a+b) (10^t)) (10^t)) t t v u w h k (by omega) (by omega) (hR.pw i).1 (hR.pw i).2 psq.1 psq.2)
 rw [←hSQ] at BS BI
 have HSQ:=hid hSQ
 have HR:=hid hR
 have HN1:=hid hR.e1
 have HN2:=hid hR.e2
 have HE:=hid (show rtP (frB (a-b) (a+b) (10^t)) (10^t) N=(2*(rsP (frB (a-b) (a+b) (10^t)) (10^t) N).1,2*((rsP (frB (a-b) (a+b) (10^t)) (10^t) N).2+9)) from rfl)
 rw [HE.out]
 have HPW:=hid hR.pw
 have HSM:=hid hR.sm
 have HQ0:=hid hR.sq0
 have HEQ:=hid (fun i=>rsP_eq (frB (a-b) (a+b) (10^t)) (10^t) i)
 generalize frB (a-b) (a+b) (10^t)=Z at *
 obtain ⟨Q,hQ⟩: ∃Q,Q=(a-b)*10^t/(a+b):=⟨_,rfl⟩
 obtain ⟨R,hRr⟩: ∃R,R=(a-b)*10^t%(a+b):=⟨_,rfl⟩
 rw [←hQ,←hRr] at HZ DV
 rw [←hQ] at UP0
 have HZ2:=hid HZ
 obtain ⟨NM,hNM⟩: ∃x,x=a-b:=⟨_,rfl⟩
 obtain ⟨DN,hDN⟩: ∃x,x=a+b:=⟨_,rfl⟩
 rw [←hNM] at SB ML DV
 rw [←hDN] at AD DV
 obtain ⟨ND,hND⟩: ∃x,x=NM*10^t:=⟨_,rfl⟩
 rw [←hND] at ML DV
 clear hR ln ld la lb ln2 ld2 lD lnD hq hSQ p0 psq HE HZ hQ hRr hNM hDN hND HR
 have zA:ZV 47 3 (((w.alloc (.cells #[.bool (zneg (a:Int)),.slice a0 (zl (a:Int)).length c0] 47)).alloc (.cells #[.bool (zneg (b:Int)),.slice a1 (zl (b:Int)).length c1] 47)).alloc (.cells #[.bool false,.slice none 0 0,.bool false,.slice none 0 0] 63)) w.heap.size (a:Int):=((zv_made n0 _ rfl).below (below_alloc _ _)).below (below_alloc _ _)
 have zB:ZV 47 3 (((w.alloc (.cells #[.bool (zneg (a:Int)),.slice a0 (zl (a:Int)).length c0] 47)).alloc (.cells #[.bool (zneg (b:Int)),.slice a1 (zl (b:Int)).length c1] 47)).alloc (.cells #[.bool false,.slice none 0 0,.bool false,.slice none 0 0] 63)) (w.heap.size+1) (b:Int):=(zv_made (n1.below (below_alloc _ _)) _ (by simp)).below (below_alloc _ _)
 have zR:BC 63 (((w.alloc (.cells #[.bool (zneg (a:Int)),.slice a0 (zl (a:Int)).length c0] 47)).alloc (.cells #[.bool (zneg (b:Int)),.slice a1 (zl (b:Int)).length c1] 47)).alloc (.cells #[.bool false,.slice none 0 0,.bool false,.slice none 0 0] 63)) (w.heap.size+2) false (.slice none 0 0) false (.slice none 0 0):=BC.made (by simp)
 have yb0:Below w.heap.size w (((w.alloc (.cells #[.bool (zneg (a:Int)),.slice a0 (zl (a:Int)).length c0] 47)).alloc (.cells #[.bool (zneg (b:Int)),.slice a1 (zl (b:Int)).length c1] 47)).alloc (.cells #[.bool false,.slice none 0 0,.bool false,.slice none 0 0] 63)):=by (repeat' first|(with_reducible first|assumption|apply bR|apply bA|apply bN|apply bD|apply bL|apply bS)|refine bT ?_ (by assumption)|go_size)
 clear n0 n1
 go_enter Tryz.func91,Tryz.ntmps91
 go_upto_region 1 with fail
 refine wp_worldZ (fun WW=>Below w.heap.size w WW∧ZV 47 3 WW w.heap.size (a:Int)∧ZV 47 3 WW (w.heap.size+1) (b:Int)∧BC 63 WW (w.heap.size+2) false (.slice none 0 0) false (.slice none 0 0)) ⟨yb0,zA,zB,zR⟩ ?_
 clear zA zB zR yb0
 intro W1 ⟨y1,zA,zB,zR⟩
 refine wp_region_growF 11 [19,20,21,22,23,24,25,26,27,7,8] [Fact.z 3 ((a:Int)),Fact.z 3 ((b:Int)),Fact.z 3 (NM:Int),Fact.is (.int .i64 (t:Int)),Fact.z 3 ((10^t:Nat):Int),Fact.z 3 (ND:Int),Fact.z 3 ((a:Int)),Fact.z 3 ((b:Int)),Fact.z 3 (DN:Int),Fact.z0 W1.heap.size 47,Fact.z0 W1.heap.size 47] [9,10] (by kernel_rfl) (by kernel_rfl) ⟨?o0,?o1,?o2,?o3,?o4,?o5,?o6,?o7,?o8,?o9,?o10,trivial⟩ ?after
 case o0=>(refine oQF rfl ?_;intro ρ w1 R hcon hfn hρ hb hp hR;have e3:ρ (.tmp 3)=.pointer (some ⟨w.heap.size,0,none⟩):=hρ.tmp 3 rfl;obtain ⟨ya9,yc9,yj9,yn9⟩:=ZV.below zA hb;obtain ⟨j90,j91,-⟩:=yj9;replace hR:=fun v w2 h1 h2=>hR v w2 h1 h2 (fun h=>absurd h (by decide));clear hρ hp;unfold OpRun;go_simp;exact hR _ _ (Below.refl _ _) ⟨ya9,yc9,rfl,yn9⟩)
 case o1=>(refine oQF rfl ?_;intro ρ w1 R hcon hfn hρ hb hp hR;have e4:ρ (.tmp 4)=.pointer (some ⟨(w.heap.size+1),0,none⟩):=hρ.tmp 4 rfl;obtain ⟨ya9,yc9,yj9,yn9⟩:=ZV.below zB hb;obtain ⟨j90,j91,-⟩:=yj9;replace hR:=fun v w2 h1 h2=>hR v w2 h1 h2 (fun h=>absurd h (by decide));clear hρ hp;unfold OpRun;go_simp;exact hR _ _ (Below.refl _ _) ⟨ya9,yc9,rfl,yn9⟩)
 case o2=>(refine oQF rfl ?_;intro ρ w1 R hcon hfn hρ hb hp hR;have f19:=hp 0 19 rfl rfl;have f20:=hp 1 20 rfl rfl;replace hR:=fun v w2 h1 h2=>hR v w2 h1 h2 (fun h=>absurd h (by decide));clear hρ hp;unfold OpRun;go_simp;(refine (SB.out _ _ _ f19 f20).mono ?_;rintro e wn ⟨v9,rfl,hv9,hbn⟩;exact ⟨_,rfl,hR _ _ hbn hv9⟩))
 case o3=>(refine oQF rfl ?_;intro ρ w1 R hcon hfn hρ hb hp hR;have e2:ρ (.tmp 2)=.int .i64 (t:Int):=hρ.tmp 2 rfl;replace hR:=fun v w2 h1 h2=>hR v w2 h1 h2 (fun h=>absurd h (by decide));clear hρ hp;unfold OpRun;go_simp;exact hR _ _ (Below.refl _ _) rfl)
 case o4=>(refine oQF rfl ?_;intro ρ w1 R hcon hfn hρ hb hp hR;have e22:ρ (.tmp 22)=_:=hp 3 22 rfl rfl;replace hR:=fun v w2 h1 h2=>hR v w2 h1 h2 (fun h=>absurd h (by decide));clear hρ hp;unfold OpRun;go_simp;(refine (TN.out _).mono ?_;rintro e wn ⟨v9,rfl,hv9,hbn⟩;exact ⟨_,rfl,hR _ _ hbn hv9⟩))
 case o5=>(refine oQF rfl ?_;intro ρ w1 R hcon hfn hρ hb hp hR;have f21:=hp 2 21 rfl rfl;have f23:=hp 4 23 rfl rfl;replace hR:=fun v w2 h1 h2=>hR v w2 h1 h2 (fun h=>absurd h (by decide));clear hρ hp;unfold OpRun;go_simp;(refine (ML.out _ _ _ f21 f23).mono ?_;rintro e wn ⟨v9,rfl,hv9,hbn⟩;exact ⟨_,rfl,hR _ _ hbn hv9⟩))
 case o6=>(refine oQF rfl ?_;intro ρ w1 R hcon hfn hρ hb hp hR;have e3:ρ (.tmp 3)=.pointer (some ⟨w.heap.size,0,none⟩):=hρ.tmp 3 rfl;obtain ⟨ya9,yc9,yj9,yn9⟩:=ZV.below zA hb;obtain ⟨j90,j91,-⟩:=yj9;replace hR:=fun v w2 h1 h2=>hR v w2 h1 h2 (fun h=>absurd h (by decide));clear hρ hp;unfold OpRun;go_simp;exact hR _ _ (Below.refl _ _) ⟨ya9,yc9,rfl,yn9⟩)
 case o7=>(refine oQF rfl ?_;intro ρ w1 R hcon hfn hρ hb hp hR;have e4:ρ (.tmp 4)=.pointer (some ⟨(w.heap.size+1),0,none⟩):=hρ.tmp 4 rfl;obtain ⟨ya9,yc9,yj9,yn9⟩:=ZV.below zB hb;obtain ⟨j90,j91,-⟩:=yj9;replace hR:=fun v w2 h1 h2=>hR v w2 h1 h2 (fun h=>absurd h (by decide));clear hρ hp;unfold OpRun;go_simp;exact hR _ _ (Below.refl _ _) ⟨ya9,yc9,rfl,yn9⟩)
 case o8=>(refine oQF rfl ?_;intro ρ w1 R hcon hfn hρ hb hp hR;have f25:=hp 6 25 rfl rfl;have f26:=hp 7 26 rfl rfl;replace hR:=fun v w2 h1 h2=>hR v w2 h1 h2 (fun h=>absurd h (by decide));clear hρ hp;unfold OpRun;go_simp;(refine (AD.out _ _ _ f25 f26).mono ?_;rintro e wn ⟨v9,rfl,hv9,hbn⟩;exact ⟨_,rfl,hR _ _ hbn hv9⟩))
 case o9=>(refine oQF rfl ?_;intro ρ w1 R hcon hfn hρ hb hp hR;clear hρ hp;unfold OpRun;go_simp;exact hR _ _ (below_alloc _ _) ⟨_,rfl,hb.size,ZL.made rfl⟩ (fun _=>⟨_,rfl,Nat.le_refl _,by simp⟩))
 case o10=>(refine oQF rfl ?_;intro ρ w1 R hcon hfn hρ hb hp hR;clear hρ hp;unfold OpRun;go_simp;exact hR _ _ (below_alloc _ _) ⟨_,rfl,hb.size,ZL.made rfl⟩ (fun _=>⟨_,rfl,Nat.le_refl _,by simp⟩))
 case after=>
  intro u wn hb hf hd
  have f24:=hf 5 24 (by omega) rfl
  have f27:=hf 8 27 (by omega) rfl
  have f7:=hf 9 7 (by omega) rfl
  have f8:=hf 10 8 (by omega) rfl
  have d7_8:u 7≠u 8:=hd 9 10 7 8 (by omega) (by omega) (by omega) rfl rfl rfl rfl
  clear hf hd
  simp only [putAll,Act.put,List.setIfInBounds_toArray,List.set_cons_zero,List.set_cons_succ,List.drop_succ_cons,List.drop_zero,List.drop_nil]
  obtain ⟨xa1,xc1,xe1,xn1⟩:=f24
  obtain ⟨xa2,xc2,xe2,xn2⟩:=f27
  obtain ⟨gv7,eg1,hg1,zz1⟩:=f7
  obtain ⟨gv8,eg2,hg2,zz2⟩:=f8
  have gne:gv7≠gv8:=by intro h;apply d7_8;rw [eg1,eg2,h]
  rw [xe1,xe2,eg1,eg2]
  clear xe1 xe2 eg1 eg2 d7_8
  have zst:=zv_store2 (by decide) hb hg1 hg2 gne zz1 zz2 xn1 xn2
  obtain ⟨k0,k1,kf0,kf1,-⟩:=id zz1
  obtain ⟨l0,l1,lf0,lf1,-⟩:=id zz2
  go_upto_region 2 with fail
  clear k0 k1 kf0 kf1 l0 l1 lf0 lf1 zz1 zz2 xn1 xn2 hb
  refine wp_worldZ (fun WW=>Below _ _ WW∧ZV _ _ WW _ _∧ZV _ _ WW _ _) zst ?_
  clear zst
  intro W2 ⟨y2,z7,z8⟩
  replace y1:=below_trans y1 y2
  replace zR:=zR.below y2
  clear y2 hg1 hg2 gne zA zB SB ML AD
  obtain ⟨a7,c7,zl7,n7⟩:=z7
  obtain ⟨a8,c8,zl8,n8⟩:=z8
  obtain ⟨i0,i1,-⟩:=id zl7
  obtain ⟨j0,j1,-⟩:=id zl8
  rw [zneg_nat] at i0 j0
  go_upto_region 3 with (go_at_call 97;(with_reducible refine (DV.out _ _ _ (ZD.ofN n7) (ZD.ofN n8)).mono ?_);rintro en w3 ⟨v3,rfl,⟨a9,c9,a10,c10,rfl,n9,n10⟩,hb3⟩)
  obtain ⟨yb4,z9,z10⟩:=zv_made2 (tz:=47) n9 n10
  refine wp_worldZ (fun WW=>Below w.heap.size w WW∧ZV 47 3 WW w3.heap.size (Q:Int)∧ZV 47 3 WW (w3.heap.size+1) (R:Int)∧BC 63 WW (w.heap.size+2) false (.slice none 0 0) false (.slice none 0 0)) ⟨below_trans (below_trans y1 hb3) yb4,z9,z10,(zR.below hb3).below yb4⟩ ?_
  obtain ⟨g9,hg9⟩: ∃g,g=w3.heap.size:=⟨_,rfl⟩
  rw [←hg9]
  clear y1 zR hb3 yb4 z9 z10 n9 n10 hg9 zl7 zl8 n7 n8 i0 i1 j0 j1 DV
  intro W3 ⟨y1,z9,z10,zR⟩
  obtain ⟨a9',c9',zl9,n9⟩:=id z9
  obtain ⟨i0,i1,-⟩:=id zl9
  rw [zneg_nat] at i0
  go_upto_region 4 with fail
  have hltR:=zR.lt
  refine wp_worldZ (fun WW=>Below w.heap.size w WW∧ZV 47 3 WW g9 (Q:Int)∧ZV 47 3 WW (g9+1) (R:Int)∧BC 63 WW (w.heap.size+2) false (.slice none 0 0) false (.slice none 0 0)∧BV 63 3 WW W3.heap.size (Q,Q)) ⟨below_trans y1 (below_alloc _ _),z9.below (below_alloc _ _),z10.below (below_alloc _ _),zR.below (below_alloc _ _),BV.made (x:=(Q,Q)) rfl n9 n9⟩ ?_
  obtain ⟨g11,hg11⟩: ∃g,g=W3.heap.size:=⟨_,rfl⟩
  rw [←hg11] at hltR ⊢
  clear y1 z9 z10 zR zl9 n9 i0 i1 hg11
  intro W4 ⟨y1,z9,z10,zR,z11⟩
  obtain ⟨a10',c10',zl10,n10⟩:=z10
  obtain ⟨i0,i1,-⟩:=id zl10
  rw [zneg_nat] at i0
  have SG:=hid (show ∀w,Nz 3 w a10' c10' (zl (R:Int))→Calls Tryz.prog 88 #[.agg #[.bool false,.slice a10' (zl (R:Int)).length c10']] w fun e w'=>e=.returned (.int .i64 (cmpI (R:Int) 0))∧Below w.heap.size w w' from fun w h=>zsignD _ _ _ (ZD.ofN h))
  obtain ⟨κ,hκ⟩: ∃κ,κ=cmpI (R:Int) 0:=⟨_,rfl⟩
  rw [←hκ] at SG
  have HK:=hid hκ
  clear hκ
  go_upto_if 39 with (go_at_call 88;(with_reducible refine (SG.out _ n10).mono ?_);rintro en w7 ⟨rfl,hb7⟩)
  have y7:=below_trans y1 hb7
  have z97:=z9.below hb7
  have zR7:=zR.below hb7
  have z117:=z11.below hb7
  clear y1 z9 zR z11 hb7 zl10 n10 i0 i1 SG
  go_cut [] (fun wx=>Below w.heap.size w wx∧BC 63 wx (w.heap.size+2) false (.slice none 0 0) false (.slice none 0 0)∧BV 63 3 wx g11 Z)
  case first=>as_aux_lemma=>
   by_cases hr:R=0
   ·have HZ3:=hid (show Z=(Q,Q) by rw [HZ2.out,if_pos hr])
    have hk0: ¬0<κ:=by rw [HK.out,hr];decide
    clear hr HK
    go_wp2_with fail
    go_meet
    rw [HZ3.out]
    exact ⟨y7,zR7,z117⟩
   ·have HZ3:=hid (show Z=(Q,Q+1) by rw [HZ2.out,if_neg hr])
    have hk0:0<κ:=by rw [HK.out];unfold cmpI;rw [if_neg (by omega),if_pos (by omega)];omega
    clear hr HK
    obtain ⟨Q2,hQ2⟩: ∃Q2,Q2=Q+1:=⟨_,rfl⟩
    have HQ2:=hid hQ2
    rw [←hQ2] at UP0
    clear hQ2
    obtain ⟨a9',c9',zl9,n9⟩:=id z97
    obtain ⟨i0,i1,-⟩:=id zl9
    rw [zneg_nat] at i0
    go_wp2_with (go_at_call 102;(with_reducible refine (UP0.out _ _ (ZD.ofN n9)).mono ?_);rintro en w8 ⟨v8,rfl,hv8,hb8⟩;obtain ⟨a8,c8,rfl,n8⟩:=ZD.toN hv8;have zz:=z117.below hb8;obtain ⟨ax,cx,bx,dx,⟨⟨k0,k1,k2,k3⟩,f0,f1,f2,f3,s6⟩,m1,m2⟩:=id zz)
    go_meet
    rw [HZ3.out,←HQ2.out]
    exact ⟨((below_trans y7 hb8).setCell (p:=⟨g11,2,none⟩) (by show w.heap.size≤g11;omega) _).setCell (p:=⟨g11,3,none⟩) (by show w.heap.size≤g11;omega) _,((zR7.below hb8).set1 _ _ (by show w.heap.size+2≠g11;omega)).set1 _ _ (by show w.heap.size+2≠g11;omega),BV.put_hi (x:=(Q,Q)) zz (by decide) n8⟩
  case rest=>
   obtain ⟨y8,zR8,z118⟩:=hcut
   obtain ⟨W5,hW5⟩: ∃W,W=wc:=⟨_,rfl⟩
   subst hW5
   clear y7 z97 zR7 z117 HZ2 UP0 HK
   obtain ⟨a11,c11,b11,d11,⟨i0,i1,i2,i3⟩,pz11⟩:=z118.all
   go_upto_region 7 with (go_at_call 98;(with_reducible refine (BS.out _ _ _ pz11 pz11).mono ?_);rintro en w9 ⟨v9,rfl,⟨a12,c12,b12,d12,rfl,m12,m13⟩,hb9⟩)
   have hlt11:=(z118.below hb9).lt
   refine wp_worldZ (fun WW=>Below w.heap.size w WW∧BC 63 WW (w.heap.size+2) false (.slice none 0 0) false (.slice none 0 0)∧BV 63 3 WW g11 Z∧BV 63 3 WW w9.heap.size SQ) ⟨below_trans (below_trans y8 hb9) (below_alloc _ _),(zR8.below hb9).below (below_alloc _ _),(z118.below hb9).below (below_alloc _ _),BV.made rfl m12 m13⟩ ?_
   obtain ⟨g12,hg12⟩: ∃g,g=w9.heap.size:=⟨_,rfl⟩
   rw [←hg12] at hlt11 ⊢
   clear y8 zR8 z118 pz11 m12 m13 hb9 hg12 i0 i1 i2 i3 BS
   intro W6 ⟨y8,zR8,z11,z12⟩
   have hlt12:=z12.lt
   go_upto_region 8 with fail
   refine wp_worldZ (fun WW=>Below w.heap.size w WW∧BC 63 WW (w.heap.size+2) false (.slice none 0 0) false (.slice none 0 0)∧BV 63 3 WW g11 Z∧BV 63 3 WW g12 SQ∧BV 63 3 WW W6.heap.size (0,0)) ⟨below_trans y8 (below_alloc _ _),zR8.below (below_alloc _ _),z11.below (below_alloc _ _),z12.below (below_alloc _ _),BV.zero⟩ ?_
   obtain ⟨g13,hg13⟩: ∃g,g=W6.heap.size:=⟨_,rfl⟩
   rw [←hg13] at hlt12 ⊢
   clear y8 zR8 z11 z12 hg13
   intro W7 ⟨y8,zR,z11,z12,z13⟩
   obtain ⟨D,hD⟩: ∃D,D=10^t:=⟨_,rfl⟩
   have HD:=hid hD
   rw [←hD] at BI HN1 HN2 HSQ HEQ
   clear hD
   go_wp2_with fail
   go_loopw [14] (fun s14 wx=> ∃j J:Nat,s14=.int .i64 (J:Int)∧J=2*j+1∧j≤N∧Below w.heap.size w wx∧BC 63 wx (w.heap.size+2) false (.slice none 0 0) false (.slice none 0 0)∧BV 63 3 wx g11 (rpP Z D j)∧BV 63 3 wx g12 SQ∧BV 63 3 wx g13 (rqP Z D j)) (fun s14 _=>2*N+4-(intOf s14).toNat)
   case atStart=>exact ⟨0,1,rfl,rfl,by omega,y8,zR,z11,z12,z13⟩
   case round=>
   obtain ⟨j,J,rfl,hJ,hj,yr,zr,v11,v12,v13⟩:=hrel
   have HJ:=hid hJ
   clear y8 zR z11 z12 z13 hJ
   have bP:=HPW.out j
   have bQ:=HQ0.out j (by omega)
   have bS:=HSM.out j (by omega)
   have hE1:=HN1.out
   have hE2:=HN2.out j
   have eS:=HEQ.out j
   rw [←HD.out] at bP bQ bS
   obtain ⟨T,hT⟩: ∃T,T=rpP Z D j:=⟨_,rfl⟩
   obtain ⟨S,hS⟩: ∃S,S=rqP Z D j:=⟨_,rfl⟩
   obtain ⟨V,hV⟩: ∃V,V=rsP Z D j:=⟨_,rfl⟩
   rw [←hT] at v11 bP hE2 eS
   rw [←hS] at v13 bQ eS
   rw [←hV] at bS eS
   obtain ⟨T1,T2⟩:=T
   obtain ⟨S1,S2⟩:=S
   obtain ⟨V1,V2⟩:=V
   simp only at bP bQ bS hE2
   have HC1:T2≤2→j=N:=fun h=>Nat.le_antisymm hj (Nat.le_of_not_lt fun h2=>hE2 h2 h)
   have HC2: ¬T2≤2→j<N:=fun h=>Nat.lt_of_le_of_ne hj fun h2=>by
    rw [h2] at hT
    rw [←hT] at hE1
    exact h hE1
   have HT:=hid hT
   have HS:=hid hS
   have HV:=hid hV
   have eV1:V1=S1+T1/J:=by rw [HJ.out];exact congrArg Prod.fst eS
   have eV2:V2=S2+(T2/J+1):=by rw [HJ.out];exact congrArg Prod.snd eS
   have hJb:0<J∧J≤24000000010:=by have:=HJ.out;omega
   have bP10:T1≤10^t∧T2≤10^t:=by rw [←HD.out];exact bP
   have lT1:(zl (T1:Int)).length≤4000000000:=by have:=zl_le10 bP10.1;omega
   have lT2:(zl (T2:Int)).length≤4000000000:=by have:=zl_le10 bP10.2;omega
   have lJ:(zl (J:Int)).length≤1000000000:=by
    have:=zl_le10 (x:=J) (E:=20) (Nat.le_trans hJb.2 (by decide))
    omega
   have DV1:=hid (fun v u w h k=>zdivN v u T1 J w h k lT1 lJ hJb.1)
   have DV2:=hid (fun v u w h k=>zdivN v u T2 J w h k lT2 lJ hJb.1)
   have lQ1:(zl ((T1/J:Nat):Int)).length≤4000000000:=by have:=zl_le10 (Nat.le_trans (Nat.div_le_self T1 J) bP10.1);omega
   have lQ2:(zl ((T2/J:Nat):Int)).length≤4000000000:=by have:=zl_le10 (Nat.le_trans (Nat.div_le_self T2 J) bP10.2);omega
   obtain ⟨U,hU⟩: ∃U,U=T2/J+1:=⟨_,rfl⟩
   have UP:=hid (show ∀v w,ZD 3 w ((T2/J:Nat):Int) v→Calls Tryz.prog 102 #[v] w (RetZD 3 w (U:Int)) from fun v w h=>by rw [hU];exact up1_any v (T2/J) w h lQ2)
   have lU:(zl (U:Int)).length≤4000000000:=by
    have a:U≤10^(t+1):=by
     rw [hU,Nat.pow_succ,←HD.out]
     have:=Nat.le_trans (Nat.div_le_self T2 J) bP.2
     have:0<D:=by rw [HD.out];exact Nat.pow_pos (by omega)
     omega
    have:=zl_le10 a;omega
   rw [←hU] at eV2
   generalize T1%J=R1 at *
   generalize T2%J=R2 at *
   generalize T1/J=Q1 at *
   generalize T2/J=Q2 at *
   have lS1:(zl (S1:Int)).length≤4000000000:=by have:=zl_le10 bQ.1;omega
   have lS2:(zl (S2:Int)).length≤4000000000:=by have:=zl_le10 bQ.2;omega
   have AD1:=hid (fun v u w h k=>zaddN v u S1 Q1 w h k lS1 lQ1)
   have AD2:=hid (fun v u w h k=>zaddN v u S2 U w h k lS2 lU)
   rw [←eV1] at AD1
   rw [←eV2] at AD2
   have lV1:(zl (V1:Int)).length≤4000000000:=by have:=zl_le10 bS.1;omega
   have lV2:(zl (V2:Int)).length≤4000000000:=by have:=zl_le10 bS.2;omega
   obtain ⟨X9,hX9⟩: ∃X,X=V2+9:=⟨_,rfl⟩
   have lX9:(zl (X9:Int)).length≤4000000000:=by
    have a:X9≤10^(t+12+1):=by
     rw [hX9,Nat.pow_succ]
     have:=bS.2
     have:10≤10^(t+12):=Nat.le_trans (show 10≤10^1 by decide) (Nat.pow_le_pow_right (by omega) (by omega))
     omega
    have:=zl_le10 a;omega
   have A9:=hid (show ∀v u w,ZD 3 w (V2:Int) v→ZD 3 w 9 u→Calls Tryz.prog 76 #[v,u] w (RetZD 3 w (X9:Int)) from fun v u w h k=>by
    rw [hX9];exact zaddN v u V2 9 w h k lV2 (by decide))
   have AL:=hid (fun v u w h k=>zaddN v u V1 V1 w h k lV1 lV1)
   have AH:=hid (fun v u w h k=>zaddN v u X9 X9 w h k lX9 lX9)
   have HX9:=hid hX9
   clear bP10 hT hS hV hE1 hE2 eS eV1 eV2 lT1 lT2 lJ lQ1 lQ2 lU lS1 lS2 lV1 lV2 lX9 hX9 hU bP bQ bS
   go_upto_region 10 with fail
   refine wp_worldZ (fun WW=>Below w.heap.size w WW∧BC 63 WW (w.heap.size+2) false (.slice none 0 0) false (.slice none 0 0)∧BV 63 3 WW g11 (T1,T2)∧BV 63 3 WW g12 SQ∧BV 63 3 WW g13 (S1,S2)) ⟨yr,zr,v11,v12,v13⟩ ?_
   clear yr zr v11 v12 v13
   intro W8 ⟨yr,zr,v11,v12,v13⟩
   refine wp_region_growL 10 7 [51,52,53,54,55,50,56,57,15,16] [Fact.is (.pointer (some ⟨g11,0,none⟩)),Fact.z 3 (T1:Int),Fact.is (.int .i64 (J:Int)),Fact.z 3 ((J:Int)),Fact.z2 3 (Q1:Int) (R1:Int),Fact.z2 3 (Q1:Int) (R1:Int),Fact.z 3 (Q1:Int),Fact.z 3 (R1:Int),Fact.z0 W8.heap.size 47,Fact.z0 W8.heap.size 47] [8,9] (by kernel_rfl) (by kernel_rfl) rfl ⟨?o0,?o1,?o2,?o3,?o4,?o5,?o6,?o7,?o8,?o9,trivial⟩ ?late (fun d _ _ _ _ h=>by cases d<;>exact h) ?after
   case o0=>(refine oQF rfl ?_;intro ρ w1 R hcon hfn hρ hb hp hR;have e11:ρ (.tmp 11)=.pointer (some ⟨g11,0,none⟩):=hρ.tmp 11 rfl;replace hR:=fun v w2 h1 h2=>hR v w2 h1 h2 (fun h=>absurd h (by decide));clear hρ hp;unfold OpRun;go_simp;exact hR _ _ (Below.refl _ _) rfl)
   case o1=>(refine oQF rfl ?_;intro ρ w1 R hcon hfn hρ hb hp hR;have e51:ρ (.tmp 51)=_:=hp 0 51 rfl rfl;obtain ⟨qa,qc,q0,q1,qz⟩:=(v11.below hb).lo;replace hR:=fun v w2 h1 h2=>hR v w2 h1 h2 (fun h=>absurd h (by decide));clear hρ hp;unfold OpRun;go_simp;exact hR _ _ (Below.refl _ _) qz)
   case o2=>(refine oQF rfl ?_;intro ρ w1 R hcon hfn hρ hb hp hR;have e14:ρ (.tmp 14)=.int .i64 (J:Int):=hρ.tmp 14 rfl;replace hR:=fun v w2 h1 h2=>hR v w2 h1 h2 (fun h=>absurd h (by decide));clear hρ hp;unfold OpRun;go_simp;exact hR _ _ (Below.refl _ _) rfl)
   case o3=>(refine oQF rfl ?_;intro ρ w1 R hcon hfn hρ hb hp hR;have e53:ρ (.tmp 53)=_:=hp 2 53 rfl rfl;replace hR:=fun v w2 h1 h2=>hR v w2 h1 h2 (fun h=>absurd h (by decide));clear hρ hp;unfold OpRun;go_simp;(refine (zND _ (by omega) (by omega) _).mono ?_;rintro e wn ⟨v9,rfl,hz9,hbn⟩;exact ⟨_,rfl,hR _ _ hbn hz9⟩))
   case o4=>(refine oQF rfl ?_;intro ρ w1 R hcon hfn hρ hb hp hR;have f52:=hp 1 52 rfl rfl;have f54:=hp 3 54 rfl rfl;replace hR:=fun v w2 h1 h2=>hR v w2 h1 h2 (fun h=>absurd h (by decide));clear hρ hp;unfold OpRun;go_simp;(refine (DV1.out _ _ _ f52 f54).mono ?_;rintro e wn ⟨v9,rfl,hv9,hbn⟩;exact ⟨_,rfl,hR _ _ hbn hv9⟩))
   case o5=>(refine oQF rfl ?_;intro ρ w1 R hcon hfn hρ hb hp hR;have f55:=hp 4 55 rfl rfl;replace hR:=fun v w2 h1 h2=>hR v w2 h1 h2 (fun h=>absurd h (by decide));clear hρ hp;unfold OpRun;go_simp;exact hR _ _ (Below.refl _ _) f55)
   case o6=>(refine oQF rfl ?_;intro ρ w1 R hcon hfn hρ hb hp hR;have f50:=hp 5 50 rfl rfl;obtain ⟨a97,b97,e97,h97,k97⟩:=ZD2.parts f50;replace hR:=fun v w2 h1 h2=>hR v w2 h1 h2 (fun h=>absurd h (by decide));clear hρ hp;unfold OpRun;go_simp;exact hR _ _ (Below.refl _ _) h97)
   case o7=>(refine oQF rfl ?_;intro ρ w1 R hcon hfn hρ hb hp hR;have f50:=hp 5 50 rfl rfl;obtain ⟨a97,b97,e97,h97,k97⟩:=ZD2.parts f50;replace hR:=fun v w2 h1 h2=>hR v w2 h1 h2 (fun h=>absurd h (by decide));clear hρ hp;unfold OpRun;go_simp;exact hR _ _ (Below.refl _ _) k97)
   case o8=>(refine oQF rfl ?_;intro ρ w1 R hcon hfn hρ hb hp hR;clear hρ hp;unfold OpRun;go_simp;exact hR _ _ (below_alloc _ _) ⟨_,rfl,hb.size,ZL.made rfl⟩ (fun _=>⟨_,rfl,Nat.le_refl _,by simp⟩))
   case o9=>(refine oQF rfl ?_;intro ρ w1 R hcon hfn hρ hb hp hR;clear hρ hp;unfold OpRun;go_simp;exact hR _ _ (below_alloc _ _) ⟨_,rfl,hb.size,ZL.made rfl⟩ (fun _=>⟨_,rfl,Nat.le_refl _,by simp⟩))
   case late=>
    intro o ho
    simp only [List.getElem?_cons_succ,List.getElem?_cons_zero,Option.some.injEq] at ho
    subst ho
    refine ⟨rfl,?_⟩
    intro ρ w1 hρ hb hp
    have f50:=hp 5 50 rfl rfl
    obtain ⟨a97,b97,e97,h97,k97⟩:=ZD2.parts f50
    refine ⟨_,?_,k97⟩
    intro w2
    have hcon:=hρ.con
    go_simp
    try rfl
   case after=>
    intro u wn hb hf hd
    have f56:=hf 6 56 (by omega) rfl
    have f57:=hf 7 57 (by omega) rfl
    have f15:=hf 8 15 (by omega) rfl
    have f16:=hf 9 16 (by omega) rfl
    have d15_16:u 15≠u 16:=hd 8 9 15 16 (by omega) (by omega) (by omega) rfl rfl rfl rfl
    clear hf hd
    simp only [putAll,Act.put,List.setIfInBounds_toArray,List.set_cons_zero,List.set_cons_succ,List.drop_succ_cons,List.drop_zero,List.drop_nil]
    obtain ⟨xa1,xc1,xe1,xn1⟩:=f56
    obtain ⟨xa2,xc2,xe2,xn2⟩:=f57
    obtain ⟨gv15,eg1,hg1,zz1⟩:=f15
    obtain ⟨gv16,eg2,hg2,zz2⟩:=f16
    have gne:gv15≠gv16:=by intro h;apply d15_16;rw [eg1,eg2,h]
    rw [xe1,xe2,eg1,eg2]
    clear xe1 xe2 eg1 eg2 d15_16
    have zst:=zv_store2 (by decide) hb hg1 hg2 gne zz1 zz2 xn1 xn2
    obtain ⟨k0,k1,kf0,kf1,-⟩:=id zz1
    obtain ⟨l0,l1,lf0,lf1,-⟩:=id zz2
    go_upto_region 11 with fail
    clear k0 k1 kf0 kf1 l0 l1 lf0 lf1 zz1 zz2 xn1 xn2 hb
    refine wp_worldZ (fun WW=>Below _ _ WW∧ZV _ _ WW _ _∧ZV _ _ WW _ _) zst ?_
    clear zst
    intro W9 ⟨y9,z15,z16⟩
    replace yr:=below_trans yr y9
    replace zr:=zr.below y9
    replace v11:=v11.below y9
    replace v12:=v12.below y9
    replace v13:=v13.below y9
    clear y9 hg1 hg2 gne z16 DV1
    refine wp_region_growL 10 7 [59,60,61,62,63,58,64,65,17,18] [Fact.is (.pointer (some ⟨g11,2,none⟩)),Fact.z 3 (T2:Int),Fact.is (.int .i64 (J:Int)),Fact.z 3 ((J:Int)),Fact.z2 3 (Q2:Int) (R2:Int),Fact.z2 3 (Q2:Int) (R2:Int),Fact.z 3 (Q2:Int),Fact.z 3 (R2:Int),Fact.z0 W9.heap.size 47,Fact.z0 W9.heap.size 47] [8,9] (by kernel_rfl) (by kernel_rfl) rfl ⟨?o0,?o1,?o2,?o3,?o4,?o5,?o6,?o7,?o8,?o9,trivial⟩ ?late (fun d _ _ _ _ h=>by cases d<;>exact h) ?after
    case o0=>(refine oQF rfl ?_;intro ρ w1 R hcon hfn hρ hb hp hR;have e11:ρ (.tmp 11)=.pointer (some ⟨g11,0,none⟩):=hρ.tmp 11 rfl;replace hR:=fun v w2 h1 h2=>hR v w2 h1 h2 (fun h=>absurd h (by decide));clear hρ hp;unfold OpRun;go_simp;exact hR _ _ (Below.refl _ _) rfl)
    case o1=>(refine oQF rfl ?_;intro ρ w1 R hcon hfn hρ hb hp hR;have e59:ρ (.tmp 59)=_:=hp 0 59 rfl rfl;obtain ⟨qa,qc,q0,q1,qz⟩:=(v11.below hb).hi;replace hR:=fun v w2 h1 h2=>hR v w2 h1 h2 (fun h=>absurd h (by decide));clear hρ hp;unfold OpRun;go_simp;exact hR _ _ (Below.refl _ _) qz)
    case o2=>(refine oQF rfl ?_;intro ρ w1 R hcon hfn hρ hb hp hR;have e14:ρ (.tmp 14)=.int .i64 (J:Int):=hρ.tmp 14 rfl;replace hR:=fun v w2 h1 h2=>hR v w2 h1 h2 (fun h=>absurd h (by decide));clear hρ hp;unfold OpRun;go_simp;exact hR _ _ (Below.refl _ _) rfl)
    case o3=>(refine oQF rfl ?_;intro ρ w1 R hcon hfn hρ hb hp hR;have e61:ρ (.tmp 61)=_:=hp 2 61 rfl rfl;replace hR:=fun v w2 h1 h2=>hR v w2 h1 h2 (fun h=>absurd h (by decide));clear hρ hp;unfold OpRun;go_simp;(refine (zND _ (by omega) (by omega) _).mono ?_;rintro e wn ⟨v9,rfl,hz9,hbn⟩;exact ⟨_,rfl,hR _ _ hbn hz9⟩))
    case o4=>(refine oQF rfl ?_;intro ρ w1 R hcon hfn hρ hb hp hR;have f60:=hp 1 60 rfl rfl;have f62:=hp 3 62 rfl rfl;replace hR:=fun v w2 h1 h2=>hR v w2 h1 h2 (fun h=>absurd h (by decide));clear hρ hp;unfold OpRun;go_simp;(refine (DV2.out _ _ _ f60 f62).mono ?_;rintro e wn ⟨v9,rfl,hv9,hbn⟩;exact ⟨_,rfl,hR _ _ hbn hv9⟩))
    case o5=>(refine oQF rfl ?_;intro ρ w1 R hcon hfn hρ hb hp hR;have f63:=hp 4 63 rfl rfl;replace hR:=fun v w2 h1 h2=>hR v w2 h1 h2 (fun h=>absurd h (by decide));clear hρ hp;unfold OpRun;go_simp;exact hR _ _ (Below.refl _ _) f63)
    case o6=>(refine oQF rfl ?_;intro ρ w1 R hcon hfn hρ hb hp hR;have f58:=hp 5 58 rfl rfl;obtain ⟨a97,b97,e97,h97,k97⟩:=ZD2.parts f58;replace hR:=fun v w2 h1 h2=>hR v w2 h1 h2 (fun h=>absurd h (by decide));clear hρ hp;unfold OpRun;go_simp;exact hR _ _ (Below.refl _ _) h97)
    case o7=>(refine oQF rfl ?_;intro ρ w1 R hcon hfn hρ hb hp hR;have f58:=hp 5 58 rfl rfl;obtain ⟨a97,b97,e97,h97,k97⟩:=ZD2.parts f58;replace hR:=fun v w2 h1 h2=>hR v w2 h1 h2 (fun h=>absurd h (by decide));clear hρ hp;unfold OpRun;go_simp;exact hR _ _ (Below.refl _ _) k97)
    case o8=>(refine oQF rfl ?_;intro ρ w1 R hcon hfn hρ hb hp hR;clear hρ hp;unfold OpRun;go_simp;exact hR _ _ (below_alloc _ _) ⟨_,rfl,hb.size,ZL.made rfl⟩ (fun _=>⟨_,rfl,Nat.le_refl _,by simp⟩))
    case o9=>(refine oQF rfl ?_;intro ρ w1 R hcon hfn hρ hb hp hR;clear hρ hp;unfold OpRun;go_simp;exact hR _ _ (below_alloc _ _) ⟨_,rfl,hb.size,ZL.made rfl⟩ (fun _=>⟨_,rfl,Nat.le_refl _,by simp⟩))
    case late=>
     intro o ho
     simp only [List.getElem?_cons_succ,List.getElem?_cons_zero,Option.some.injEq] at ho
     subst ho
     refine ⟨rfl,?_⟩
     intro ρ w1 hρ hb hp
     have f58:=hp 5 58 rfl rfl
     obtain ⟨a97,b97,e97,h97,k97⟩:=ZD2.parts f58
     refine ⟨_,?_,k97⟩
     intro w2
     have hcon:=hρ.con
     go_simp
     try rfl
    case after=>
     intro u wn hb hf hd
     have f64:=hf 6 64 (by omega) rfl
     have f65:=hf 7 65 (by omega) rfl
     have f17:=hf 8 17 (by omega) rfl
     have f18:=hf 9 18 (by omega) rfl
     have d17_18:u 17≠u 18:=hd 8 9 17 18 (by omega) (by omega) (by omega) rfl rfl rfl rfl
     clear hf hd
     simp only [putAll,Act.put,List.setIfInBounds_toArray,List.set_cons_zero,List.set_cons_succ,List.drop_succ_cons,List.drop_zero,List.drop_nil]
     obtain ⟨xa1,xc1,xe1,xn1⟩:=f64
     obtain ⟨xa2,xc2,xe2,xn2⟩:=f65
     obtain ⟨gv17,eg1,hg1,zz1⟩:=f17
     obtain ⟨gv18,eg2,hg2,zz2⟩:=f18
     have gne:gv17≠gv18:=by intro h;apply d17_18;rw [eg1,eg2,h]
     rw [xe1,xe2,eg1,eg2]
     clear xe1 xe2 eg1 eg2 d17_18
     have zst:=zv_store2 (by decide) hb hg1 hg2 gne zz1 zz2 xn1 xn2
     obtain ⟨k0,k1,kf0,kf1,-⟩:=id zz1
     obtain ⟨l0,l1,lf0,lf1,-⟩:=id zz2
     go_upto_region 12 with fail
     clear k0 k1 kf0 kf1 l0 l1 lf0 lf1 zz1 zz2 xn1 xn2 hb
     refine wp_worldZ (fun WW=>Below _ _ WW∧ZV _ _ WW _ _∧ZV _ _ WW _ _) zst ?_
     clear zst
     intro WA ⟨yA,z17,z18⟩
     replace yr:=below_trans yr yA
     replace zr:=zr.below yA
     replace v11:=v11.below yA
     replace v12:=v12.below yA
     replace v13:=v13.below yA
     replace z15:=z15.below yA
     clear yA hg1 hg2 gne z18 DV2
     refine wp_region_grow 10 [66,67,68,69,70,71,72,73,74,75] [Fact.is (.pointer (some ⟨g13,0,none⟩)),Fact.z 3 (S1:Int),Fact.z 3 ((Q1:Int)),Fact.z 3 (V1:Int),Fact.is (.pointer (some ⟨g13,2,none⟩)),Fact.z 3 (S2:Int),Fact.z 3 ((Q2:Int)),Fact.z 3 (U:Int),Fact.z 3 (V2:Int),Fact.pz 3 (V1,V2)] (by kernel_rfl) (by kernel_rfl) ⟨?o0,?o1,?o2,?o3,?o4,?o5,?o6,?o7,?o8,?o9,trivial⟩ ?after
     case o0=>(refine oQ rfl ?_;intro ρ w1 R hcon hfn hρ hb hp hR;have e13:ρ (.tmp 13)=.pointer (some ⟨g13,0,none⟩):=hρ.tmp 13 rfl;clear hρ hp;unfold OpRun;go_simp;exact hR _ _ (Below.refl _ _) rfl)
     case o1=>(refine oQ rfl ?_;intro ρ w1 R hcon hfn hρ hb hp hR;have e66:ρ (.tmp 66)=_:=hp 0 66 rfl rfl;obtain ⟨qa,qc,q0,q1,qz⟩:=(v13.below hb).lo;clear hρ hp;unfold OpRun;go_simp;exact hR _ _ (Below.refl _ _) qz)
     case o2=>(refine oQ rfl ?_;intro ρ w1 R hcon hfn hρ hb hp hR;have e15:ρ (.tmp 15)=.pointer (some ⟨gv15,0,none⟩):=hρ.tmp 15 rfl;obtain ⟨ya9,yc9,yj9,yn9⟩:=ZV.below z15 hb;obtain ⟨j90,j91,-⟩:=yj9;clear hρ hp;unfold OpRun;go_simp;exact hR _ _ (Below.refl _ _) ⟨ya9,yc9,rfl,yn9⟩)
     case o3=>(refine oQ rfl ?_;intro ρ w1 R hcon hfn hρ hb hp hR;have f67:=hp 1 67 rfl rfl;have f68:=hp 2 68 rfl rfl;clear hρ hp;unfold OpRun;go_simp;(refine (AD1.out _ _ _ f67 f68).mono ?_;rintro e wn ⟨v9,rfl,hv9,hbn⟩;exact ⟨_,rfl,hR _ _ hbn hv9⟩))
     case o4=>(refine oQ rfl ?_;intro ρ w1 R hcon hfn hρ hb hp hR;have e13:ρ (.tmp 13)=.pointer (some ⟨g13,0,none⟩):=hρ.tmp 13 rfl;clear hρ hp;unfold OpRun;go_simp;exact hR _ _ (Below.refl _ _) rfl)
     case o5=>(refine oQ rfl ?_;intro ρ w1 R hcon hfn hρ hb hp hR;have e70:ρ (.tmp 70)=_:=hp 4 70 rfl rfl;obtain ⟨qa,qc,q0,q1,qz⟩:=(v13.below hb).hi;clear hρ hp;unfold OpRun;go_simp;exact hR _ _ (Below.refl _ _) qz)
     case o6=>(refine oQ rfl ?_;intro ρ w1 R hcon hfn hρ hb hp hR;have e17:ρ (.tmp 17)=.pointer (some ⟨gv17,0,none⟩):=hρ.tmp 17 rfl;obtain ⟨ya9,yc9,yj9,yn9⟩:=ZV.below z17 hb;obtain ⟨j90,j91,-⟩:=yj9;clear hρ hp;unfold OpRun;go_simp;exact hR _ _ (Below.refl _ _) ⟨ya9,yc9,rfl,yn9⟩)
     case o7=>(refine oQ rfl ?_;intro ρ w1 R hcon hfn hρ hb hp hR;have f72:=hp 6 72 rfl rfl;clear hρ hp;unfold OpRun;go_simp;(refine (UP.out _ _ f72).mono ?_;rintro e wn ⟨v9,rfl,hv9,hbn⟩;exact ⟨_,rfl,hR _ _ hbn hv9⟩))
     case o8=>(refine oQ rfl ?_;intro ρ w1 R hcon hfn hρ hb hp hR;have f71:=hp 5 71 rfl rfl;have f73:=hp 7 73 rfl rfl;clear hρ hp;unfold OpRun;go_simp;(refine (AD2.out _ _ _ f71 f73).mono ?_;rintro e wn ⟨v9,rfl,hv9,hbn⟩;exact ⟨_,rfl,hR _ _ hbn hv9⟩))
     case o9=>(refine oQ rfl ?_;intro ρ w1 R hcon hfn hρ hb hp hR;have f69:=hp 3 69 rfl rfl;have f74:=hp 8 74 rfl rfl;clear hρ hp;unfold OpRun;go_simp;(obtain ⟨a91,c91,e91,n91⟩:=ZD.toN f69;obtain ⟨a92,c92,e92,n92⟩:=ZD.toN f74;rw [e91,e92];exact hR _ _ (Below.refl _ _) (PZ.mk (x:=(V1,V2)) n91 n92)))
     case after=>
      intro u wn hb hf
      have f75:=hf 9 75 (by omega) rfl
      clear hf
      simp only [putAll,Act.put,List.setIfInBounds_toArray,List.set_cons_zero,List.set_cons_succ,List.drop_succ_cons,List.drop_zero,List.drop_nil]
      obtain ⟨a8,c8,b8,d8,e75,m8,m9⟩:=f75
      rw [e75]
      clear e75
      replace yr:=below_trans yr hb
      replace zr:=zr.below hb
      replace v11:=v11.below hb
      replace v12:=v12.below hb
      obtain ⟨x0,x1,x2,x3,⟨⟨k0,k1,k2,k3⟩,f0,f1,f2,f3,s7⟩⟩:=(v13.below hb).bc
      clear hb v13 z15 z17 UP AD1 AD2
      go_upto_region 13 with fail
      refine wp_worldZ (fun WW=>Below w.heap.size w WW∧BC 63 WW (w.heap.size+2) false (.slice none 0 0) false (.slice none 0 0)∧BV 63 3 WW g11 (T1,T2)∧BV 63 3 WW g12 SQ∧BV 63 3 WW g13 (V1,V2)) ⟨below_pu4 yr (by omega) _ _ _ _,zr.far (by omega) _ _ _ _,v11.far (by omega) s7 (by decide) _ _ _ _,v12.far (by omega) s7 (by decide) _ _ _ _,BC.put_bv (x:=(V1,V2)) ⟨⟨k0,k1,k2,k3⟩,f0,f1,f2,f3,s7⟩ (by decide) m8 m9⟩ ?_
      clear yr zr v11 v12 k0 k1 k2 k3 f0 f1 f2 f3 s7 m8 m9
      intro WB ⟨yr,zr,v11,v12,v13⟩
      refine wp_region_grow 5 [76,77,78,79,80] [Fact.is (.pointer (some ⟨g11,2,none⟩)),Fact.z 3 (T2:Int),Fact.z 3 (2),Fact.is (.int .i64 (cmpI (T2:Int) 2)),Fact.is (.bool (decide (cmpI (T2:Int) 2≤0)))] (by kernel_rfl) (by kernel_rfl) ⟨?o0,?o1,?o2,?o3,?o4,trivial⟩ ?after
      case o0=>(refine oQ rfl ?_;intro ρ w1 R hcon hfn hρ hb hp hR;have e11:ρ (.tmp 11)=.pointer (some ⟨g11,0,none⟩):=hρ.tmp 11 rfl;clear hρ hp;unfold OpRun;go_simp;exact hR _ _ (Below.refl _ _) rfl)
      case o1=>(refine oQ rfl ?_;intro ρ w1 R hcon hfn hρ hb hp hR;have e76:ρ (.tmp 76)=_:=hp 0 76 rfl rfl;obtain ⟨qa,qc,q0,q1,qz⟩:=(v11.below hb).hi;clear hρ hp;unfold OpRun;go_simp;exact hR _ _ (Below.refl _ _) qz)
      case o2=>(refine oQ rfl ?_;intro ρ w1 R hcon hfn hρ hb hp hR;clear hρ hp;unfold OpRun;go_simp;(refine (zND _ (by omega) (by omega) _).mono ?_;rintro e wn ⟨v9,rfl,hz9,hbn⟩;exact ⟨_,rfl,hR _ _ hbn hz9⟩))
      case o3=>(refine oQ rfl ?_;intro ρ w1 R hcon hfn hρ hb hp hR;have f77:=hp 1 77 rfl rfl;have f78:=hp 2 78 rfl rfl;clear hρ hp;unfold OpRun;go_simp;(refine (zcmpD _ _ _ _ _ f77 f78).mono ?_;rintro e wn ⟨rfl,hbn⟩;exact ⟨_,rfl,hR _ _ hbn rfl⟩))
      case o4=>(refine oQ rfl ?_;intro ρ w1 R hcon hfn hρ hb hp hR;have e79:ρ (.tmp 79)=_:=hp 3 79 rfl rfl;clear hρ hp;unfold OpRun;go_simp;exact hR _ _ (Below.refl _ _) rfl)
      case after=>
       intro u wn hb hf
       have e80:u 80=_:=hf 4 80 (by omega) rfl
       clear hf
       simp only [putAll,Act.put,List.setIfInBounds_toArray,List.set_cons_zero,List.set_cons_succ,List.drop_succ_cons,List.drop_zero,List.drop_nil]
       rw [e80]
       replace yr:=below_trans yr hb
       replace zr:=zr.below hb
       replace v11:=v11.below hb
       replace v12:=v12.below hb
       replace v13:=v13.below hb
       clear hb
       by_cases h2:T2≤2
       ·have hd:decide (cmpI (T2:Int) 2≤0)=true:=by
         unfold cmpI
         by_cases h3:(T2:Int)<2
         ·rw [if_pos h3];rfl
         ·rw [if_neg h3,if_neg (by omega)];rfl
        rw [hd]
        have hjN:=HC1 h2
        subst hjN
        clear HC1 HC2 hd h2 hj BI HN1 HN2
        have EV:=hid (show (2*(rsP Z D j).1,2*((rsP Z D j).2+9))=(V1+V1,X9+X9) by rw [←HV.out,HX9.out];exact (rtP_twice V1 V2).symm)
        obtain ⟨L2,hL2⟩: ∃L,L=V1+V1:=⟨_,rfl⟩
        obtain ⟨H2,hH2⟩: ∃H,H=X9+X9:=⟨_,rfl⟩
        rw [←hL2] at AL EV
        rw [←hH2] at AH EV
        clear hL2 hH2 v11 v12
        go_upto_region 15 with fail
        refine wp_region_grow 5 [85,86,87,88,89] [Fact.is (.pointer (some ⟨g13,2,none⟩)),Fact.z 3 (V2:Int),Fact.z 3 (9),Fact.z 3 (X9:Int),Fact.is (.pointer (some ⟨g13,2,none⟩))] (by kernel_rfl) (by kernel_rfl) ⟨?o0,?o1,?o2,?o3,?o4,trivial⟩ ?after
        case o0=>(refine oQ rfl ?_;intro ρ w1 R hcon hfn hρ hb hp hR;have e13:ρ (.tmp 13)=.pointer (some ⟨g13,0,none⟩):=hρ.tmp 13 rfl;clear hρ hp;unfold OpRun;go_simp;exact hR _ _ (Below.refl _ _) rfl)
        case o1=>(refine oQ rfl ?_;intro ρ w1 R hcon hfn hρ hb hp hR;have e85:ρ (.tmp 85)=_:=hp 0 85 rfl rfl;obtain ⟨qa,qc,q0,q1,qz⟩:=(v13.below hb).hi;clear hρ hp;unfold OpRun;go_simp;exact hR _ _ (Below.refl _ _) qz)
        case o2=>(refine oQ rfl ?_;intro ρ w1 R hcon hfn hρ hb hp hR;clear hρ hp;unfold OpRun;go_simp;(refine (zND _ (by omega) (by omega) _).mono ?_;rintro e wn ⟨v9,rfl,hz9,hbn⟩;exact ⟨_,rfl,hR _ _ hbn hz9⟩))
        case o3=>(refine oQ rfl ?_;intro ρ w1 R hcon hfn hρ hb hp hR;have f86:=hp 1 86 rfl rfl;have f87:=hp 2 87 rfl rfl;clear hρ hp;unfold OpRun;go_simp;(refine (A9.out _ _ _ f86 f87).mono ?_;rintro e wn ⟨v9,rfl,hv9,hbn⟩;exact ⟨_,rfl,hR _ _ hbn hv9⟩))
        case o4=>(refine oQ rfl ?_;intro ρ w1 R hcon hfn hρ hb hp hR;have e13:ρ (.tmp 13)=.pointer (some ⟨g13,0,none⟩):=hρ.tmp 13 rfl;clear hρ hp;unfold OpRun;go_simp;exact hR _ _ (Below.refl _ _) rfl)
        case after=>
         intro u wn hb hf
         have f88:=hf 3 88 (by omega) rfl
         have e89:u 89=_:=hf 4 89 (by omega) rfl
         clear hf
         simp only [putAll,Act.put,List.setIfInBounds_toArray,List.set_cons_zero,List.set_cons_succ,List.drop_succ_cons,List.drop_zero,List.drop_nil]
         rw [e89]
         obtain ⟨a66,c66,e66,n66⟩:=ZD.toN f88
         rw [e66]
         clear e66
         replace yr:=below_trans yr hb
         replace zr:=zr.below hb
         replace v13:=v13.below hb
         clear hb
         have z6:=v13
         obtain ⟨a6,c6,b6,d6,⟨⟨i0,i1,i2,i3⟩,f0,f1,f2,f3,s6⟩,m1,m2⟩:=v13
         go_upto_region 16 with fail
         refine wp_worldZ (fun WW=>Below w.heap.size w WW∧BC 63 WW (w.heap.size+2) false (.slice none 0 0) false (.slice none 0 0)∧BV 63 3 WW g13 (V1,X9)) ⟨(yr.setCell (p:=⟨g13,2,none⟩) (by show w.heap.size≤g13;omega) _).setCell (p:=⟨g13,3,none⟩) (by show w.heap.size≤g13;omega) _,(zr.set1 _ _ (by show w.heap.size+2≠g13;omega)).set1 _ _ (by show w.heap.size+2≠g13;omega),BV.put_hi (x:=(V1,V2)) z6 (by decide) n66⟩ ?_
         clear yr zr z6 i0 i1 i2 i3 f0 f1 f2 f3 s6 m1 m2 n66
         intro WC ⟨yr,zr,v13⟩
         refine wp_region_grow 11 [90,91,92,93,94,95,96,97,98,99,100] [Fact.is (.pointer (some ⟨g13,0,none⟩)),Fact.z 3 (V1:Int),Fact.is (.pointer (some ⟨g13,0,none⟩)),Fact.z 3 (V1:Int),Fact.z 3 (L2:Int),Fact.is (.pointer (some ⟨g13,2,none⟩)),Fact.z 3 (X9:Int),Fact.is (.pointer (some ⟨g13,2,none⟩)),Fact.z 3 (X9:Int),Fact.z 3 (H2:Int),Fact.pz 3 (L2,H2)] (by kernel_rfl) (by kernel_rfl) ⟨?o0,?o1,?o2,?o3,?o4,?o5,?o6,?o7,?o8,?o9,?o10,trivial⟩ ?after
         case o0=>(refine oQ rfl ?_;intro ρ w1 R hcon hfn hρ hb hp hR;have e13:ρ (.tmp 13)=.pointer (some ⟨g13,0,none⟩):=hρ.tmp 13 rfl;clear hρ hp;unfold OpRun;go_simp;exact hR _ _ (Below.refl _ _) rfl)
         case o1=>(refine oQ rfl ?_;intro ρ w1 R hcon hfn hρ hb hp hR;have e90:ρ (.tmp 90)=_:=hp 0 90 rfl rfl;obtain ⟨qa,qc,q0,q1,qz⟩:=(v13.below hb).lo;clear hρ hp;unfold OpRun;go_simp;exact hR _ _ (Below.refl _ _) qz)
         case o2=>(refine oQ rfl ?_;intro ρ w1 R hcon hfn hρ hb hp hR;have e13:ρ (.tmp 13)=.pointer (some ⟨g13,0,none⟩):=hρ.tmp 13 rfl;clear hρ hp;unfold OpRun;go_simp;exact hR _ _ (Below.refl _ _) rfl)
         case o3=>(refine oQ rfl ?_;intro ρ w1 R hcon hfn hρ hb hp hR;have e92:ρ (.tmp 92)=_:=hp 2 92 rfl rfl;obtain ⟨qa,qc,q0,q1,qz⟩:=(v13.below hb).lo;clear hρ hp;unfold OpRun;go_simp;exact hR _ _ (Below.refl _ _) qz)
         case o4=>(refine oQ rfl ?_;intro ρ w1 R hcon hfn hρ hb hp hR;have f91:=hp 1 91 rfl rfl;have f93:=hp 3 93 rfl rfl;clear hρ hp;unfold OpRun;go_simp;(refine (AL.out _ _ _ f91 f93).mono ?_;rintro e wn ⟨v9,rfl,hv9,hbn⟩;exact ⟨_,rfl,hR _ _ hbn hv9⟩))
         case o5=>(refine oQ rfl ?_;intro ρ w1 R hcon hfn hρ hb hp hR;have e13:ρ (.tmp 13)=.pointer (some ⟨g13,0,none⟩):=hρ.tmp 13 rfl;clear hρ hp;unfold OpRun;go_simp;exact hR _ _ (Below.refl _ _) rfl)
         case o6=>(refine oQ rfl ?_;intro ρ w1 R hcon hfn hρ hb hp hR;have e95:ρ (.tmp 95)=_:=hp 5 95 rfl rfl;obtain ⟨qa,qc,q0,q1,qz⟩:=(v13.below hb).hi;clear hρ hp;unfold OpRun;go_simp;exact hR _ _ (Below.refl _ _) qz)
         case o7=>(refine oQ rfl ?_;intro ρ w1 R hcon hfn hρ hb hp hR;have e13:ρ (.tmp 13)=.pointer (some ⟨g13,0,none⟩):=hρ.tmp 13 rfl;clear hρ hp;unfold OpRun;go_simp;exact hR _ _ (Below.refl _ _) rfl)
         case o8=>(refine oQ rfl ?_;intro ρ w1 R hcon hfn hρ hb hp hR;have e97:ρ (.tmp 97)=_:=hp 7 97 rfl rfl;obtain ⟨qa,qc,q0,q1,qz⟩:=(v13.below hb).hi;clear hρ hp;unfold OpRun;go_simp;exact hR _ _ (Below.refl _ _) qz)
         case o9=>(refine oQ rfl ?_;intro ρ w1 R hcon hfn hρ hb hp hR;have f96:=hp 6 96 rfl rfl;have f98:=hp 8 98 rfl rfl;clear hρ hp;unfold OpRun;go_simp;(refine (AH.out _ _ _ f96 f98).mono ?_;rintro e wn ⟨v9,rfl,hv9,hbn⟩;exact ⟨_,rfl,hR _ _ hbn hv9⟩))
         case o10=>(refine oQ rfl ?_;intro ρ w1 R hcon hfn hρ hb hp hR;have f94:=hp 4 94 rfl rfl;have f99:=hp 9 99 rfl rfl;clear hρ hp;unfold OpRun;go_simp;(obtain ⟨a91,c91,e91,n91⟩:=ZD.toN f94;obtain ⟨a92,c92,e92,n92⟩:=ZD.toN f99;rw [e91,e92];exact hR _ _ (Below.refl _ _) (PZ.mk (x:=(L2,H2)) n91 n92)))
         case after=>
          intro u wn hb hf
          have f100:=hf 10 100 (by omega) rfl
          clear hf
          simp only [putAll,Act.put,List.setIfInBounds_toArray,List.set_cons_zero,List.set_cons_succ,List.drop_succ_cons,List.drop_zero,List.drop_nil]
          obtain ⟨a8,c8,b8,d8,e100,m8,m9⟩:=f100
          rw [e100]
          clear e100
          replace yr:=below_trans yr hb
          obtain ⟨⟨k0,k1,k2,k3⟩,f0,f1,f2,f3,hs2⟩:=zr.below hb
          clear hb v13 zr
          go_wp2_with fail
          refine bodyPost_ret (by simp [results,Tryz.results91,go_sem,k0,k1,k2,k3];try rfl) rfl ?_
          have e9:=EV.out
          rw [HD.out] at e9
          rw [e9]
          exact ⟨_,rfl,PZ.mk (x:=(L2,H2)) (m8.pu4 hs2 (by decide) _ _ _ _) (m9.pu4 hs2 (by decide) _ _ _ _),below_pu4 yr (by omega) _ _ _ _⟩
       ·have hd:decide (cmpI (T2:Int) 2≤0)=false:=by
         unfold cmpI
         rw [if_neg (by omega),if_pos (by omega)];rfl
        rw [hd]
        have hjN:=HC2 h2
        clear HC1 HC2 hd h2 hj A9 AL AH
        have wI:IntKind.i64.wrap ((J:Int)+2)=(J:Int)+2:=IntWalk.i64_in _ (by omega)
        have BI1:=hid (BI.out j)
        have eT':bMul (rpP Z D j) SQ D=rpP Z D (j+1):=by rw [HSQ.out];rfl
        rw [eT',←HT.out] at BI1
        have EQ1:=hid (show rqP Z D (j+1)=(V1,V2) from HV.out.symm)
        obtain ⟨T',hT'⟩: ∃T',T'=rpP Z D (j+1):=⟨_,rfl⟩
        rw [←hT'] at BI1
        have HT':=hid hT'
        clear hT' eT' BI HN1 HN2
        obtain ⟨a7,c7,b7,d7,⟨i0,i1,i2,i3⟩,pz7⟩:=v11.all
        obtain ⟨aA,cA,bA,dA,⟨j0,j1,j2,j3⟩,pzA⟩:=v12.all
        go_upto_region 9 with (go_at_call 98;(with_reducible refine (BI1.out _ _ _ pz7 pzA).mono ?_);rintro en w8 ⟨v8,rfl,⟨a8,c8,b8,d8,rfl,m8,m9⟩,hb8⟩;obtain ⟨x0,x1,x2,x3,⟨⟨k0,k1,k2,k3⟩,f0,f1,f2,f3,s7⟩⟩:=(v11.below hb8).bc)
        refine wp_worldZ (fun WW=>Below w.heap.size w WW∧BC 63 WW (w.heap.size+2) false (.slice none 0 0) false (.slice none 0 0)∧BV 63 3 WW g11 T'∧BV 63 3 WW g12 SQ∧BV 63 3 WW g13 (V1,V2)) ⟨below_pu4 (below_trans yr hb8) (by omega) _ _ _ _,(zr.below hb8).far (by omega) _ _ _ _,BC.put_bv ⟨⟨k0,k1,k2,k3⟩,f0,f1,f2,f3,s7⟩ (by decide) m8 m9,(v12.below hb8).far (by omega) s7 (by decide) _ _ _ _,(v13.below hb8).far (by omega) s7 (by decide) _ _ _ _⟩ ?_
        clear yr zr v11 v12 v13 i0 i1 i2 i3 j0 j1 j2 j3 k0 k1 k2 k3 f0 f1 f2 f3 s7 pz7 pzA m8 m9 hb8 BI1
        intro WC ⟨yr,zr,v11,v12,v13⟩
        rw [HT'.out] at v11
        rw [←EQ1.out] at v13
        go_wp2_with fail
        go_roundw
        case rel=>exact ⟨j+1,J+2,by go_num,by have:=HJ.out;omega,hjN,yr,zr,v11,v12,v13⟩
        case measure=>have:=HJ.out;simp [intOf];omega
end Go.Proofs.YtehhegbkahnhgaaGreatDoor
