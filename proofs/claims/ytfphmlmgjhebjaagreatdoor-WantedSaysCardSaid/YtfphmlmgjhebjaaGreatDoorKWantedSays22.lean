/- WantedSays: what the proof leans on, part 22 (Tx12). -/
import Derived.Test.YtfphmlmgjhebjaaGreatDoorKWantedSays20
import Derived.Test.YtfphmlmgjhebjaaGreatDoorKWantedSays21
set_option linter.unusedVariables false
set_option linter.unusedSimpArgs false
namespace Go.Ulp
open Go.RowKit
def Fact.zb (t:TypeId) (x:Int) (c:Bool):Fact:=⟨fun v w=> ∃u,v=.tuple #[u,.bool c]∧ZD t w x u,fun _ _ _ h hb=>by
 obtain ⟨u,h1,h2⟩:=h;exact ⟨u,h1,h2.below hb⟩⟩
theorem tt_less {a b:Nat} {D:Dy} {c:Int} (hb:0<b) (hab:a*(dB D*tnN (- -c))=dA D*tnN (-c)*b):(a<b)=(dA D*tnN (-c)<dB D*tnN c):=by
 rw [show- -c=c by omega] at hab
 have hp:=Nat.mul_pos (dB_pos D) (tnN_pos c)
 refine propext ⟨fun h=>?_,fun h=>?_⟩
 ·have h1:a*(dB D*tnN c)<b*(dB D*tnN c):=(Nat.mul_lt_mul_right hp).2 h
  rw [hab,Nat.mul_comm b] at h1
  exact (Nat.mul_lt_mul_right hb).1 h1
 ·have h1:dA D*tnN (-c)*b<dB D*tnN c*b:=(Nat.mul_lt_mul_right hb).2 h
  rw [←hab,Nat.mul_comm _ b] at h1
  exact (Nat.mul_lt_mul_right hp).1 h1
theorem tt_cmp {a b:Nat} {D:Dy} {c pd:Int} (hb:0<b) (hab:a*(dB D*tnN (- -c))=dA D*tnN (-c)*b) (hp:IsDec (dA D) (dB D) pd):(0≤cmpI (a:Int) (b:Int))=(c≤pd):=by
 have h1:=less_dec hp c
 unfold lessT at h1
 have h2:=tt_less hb hab
 refine propext ⟨fun h=>?_,fun h=>?_⟩
 ·have h3: ¬a<b:=fun h4=>by
   have:=(cmpI_lt (a:Int) (b:Int)).2 (by omega)
   omega
  rw [h2] at h3
  rw [decide_eq_false h3] at h1
  have:=of_decide_eq_false h1.symm
  omega
 ·have h3: ¬a<b:=by
   rw [h2]
   intro h4
   rw [decide_eq_true h4] at h1
   have:=of_decide_eq_true h1.symm
   omega
  rcases Int.lt_or_le (cmpI (a:Int) (b:Int)) 0 with h5|h5
  ·exact absurd ((cmpI_lt _ _).1 h5) (by omega)
  ·exact h5
theorem dec_guess {X n:Nat} {D:Dy} {pd:Int} (hX:0<X) (hr:X*dB D=dA D*2^n) (hp:IsDec (dA D) (dB D) pd):pd≤((decD X).length:Int)-((decD (2^n)).length:Int):=by
 have h2:=Nat.two_pow_pos n
 have h3:=lessT_eq h2 (dB_pos D) hr (((decD X).length:Int)-((decD (2^n)).length:Int)+1)
 have h4:=decD_lt X
 have h5:=decD_ge (2^n) h2
 have h6:=decD_pos (2^n)
 have h7:=decD_pos X
 obtain ⟨la,hla⟩: ∃l,l=(decD X).length:=⟨_,rfl⟩
 obtain ⟨lb,hlb⟩: ∃l,l=(decD (2^n)).length:=⟨_,rfl⟩
 rw [←hla,←hlb] at h3 ⊢
 rw [←hla] at h4 h7
 rw [←hlb] at h5 h6
 have h8:lessT X (2^n) ((la:Int)-(lb:Int)+1)=true:=by
  rw [lessT_tens X (2^n) _ la]
  refine decide_eq_true ?_
  obtain ⟨m,hm⟩: ∃m,lb=m+1:=⟨lb-1,by omega⟩
  unfold tnN
  rw [show ((la:Int)-((la:Int)-(lb:Int)+1)).toNat=m by omega,show (-((la:Int)-((la:Int)-(lb:Int)+1))).toNat=0 by omega,Nat.pow_zero,Nat.mul_one]
  rw [hm,show m+1-1=m by omega] at h5
  exact Nat.lt_of_lt_of_le ((Nat.mul_lt_mul_right (Nat.pow_pos (by omega))).2 h4) (Nat.mul_le_mul_left _ h5)
 rw [h3,less_dec hp] at h8
 have:=of_decide_eq_true h8
 omega
end Go.Ulp
namespace Go.Proofs.YtfphmlmgjhebjaaGreatDoor
open Go.RowKit Go.Ulp
set_option maxHeartbeats 2000000
set_option maxRecDepth 100000
theorem fixedText_any (x mode:Int) (p:Nat) (h0:0≤x) (h1:x<18446744073709551616) (m0:0≤mode) (m1:mode≤4) (hp:p≤1100) (w:World):
 Calls Tryz.prog 136 #[.int .u64 x,.int .i64 (p:Int),.int .i64 mode] w fun e w'=>e=.returned (.tuple #[.string (bsOf (fxT x p mode)),.bool (fxC x p)])∧Below w.heap.size w w':=by
 obtain ⟨d1,d2,d3⟩:=fv_small x h0 h1
 obtain ⟨-,d4,-⟩:=fv_bd x h0 h1
 have hFX:fxT x p mode=dsh (negB x) (ptd (decD (fxN x p mode)) p):=rfl
 have hFN:fxN x p mode=rtN (negB x) (dA (fv x)*tnN (p:Int)) (dB (fv x)*tnN (-(p:Int))) mode:=rfl
 have hFC:fxC x p=rtC (dA (fv x)*tnN (p:Int)) (dB (fv x)*tnN (-(p:Int))):=rfl
 obtain ⟨E,hE⟩: ∃E,E=5500:=⟨_,rfl⟩
 obtain ⟨s1,s2⟩:=scaled_bits (fv x) (p:Int) 1100 d4 d3 d2 (by omega) E (by omega)
 have QV:=hid (fun w=>qval_any x h0 h1 w)
 generalize fv x=D at *
 have hd0:0<dB D*tnN (-(p:Int)):=Nat.mul_pos (dB_pos D) (tnN_pos _)
 obtain ⟨N,hN⟩: ∃N,N=fxN x p mode:=⟨_,rfl⟩
 rw [←hN] at hFN hFX
 have hNE:N<2^(E+1):=by
  rw [hFN,Nat.pow_succ]
  have h1:=(rtN_ge (negB x) (dA D*tnN (p:Int)) (dB D*tnN (-(p:Int))) mode).2
  have h2:=Nat.div_le_self (dA D*tnN (p:Int)) (dB D*tnN (-(p:Int)))
  have:=Nat.two_pow_pos E
  omega
 have lN:(zl (N:Int)).length≤6000:=Nat.le_trans (zl_len_bits (N:Int) (E+1) (by rw [Int.natAbs_natCast];exact hNE)) (by omega)
 have lD:(decD N).length≤6000:=Nat.le_trans (decD_bits N (E+1) hNE (by omega)) (by omega)
 have lp:=ptd_len (decD N) p
 have RM:=hid (show ∀(a b:Nat),0<b→a*(dB D*tnN (-(p:Int)))=dA D*tnN (p:Int)*b→(zl (a:Int)).length≤300000→(zl (b:Int)).length≤300000→ ∀v u w,ZD 3 w (a:Int) v→ZD 3 w (b:Int) u→Calls Tryz.prog 197 #[v,u,.bool (negB x),.int .i64 mode] w (RetZB 3 w (N:Int) (fxC x p)) from fun a b hb hab la lb v u w hv hu=>by
  obtain ⟨e1,e2⟩:=rtN_eq (negB x) mode hb hd0 hab
  have h9:=ratioMode_any v u a b (negB x) mode w hv hu (by omega) (by omega) hb m0 m1
  rwa [e1,e2,←hFN,←hFC] at h9)
 have PT:=hid (fun v w h=>pointed_any v N p w h (by omega) (by omega))
 have DA:=hid (fun w=>dashed_any (ptd (decD N) p) x h0 h1 (by omega) w)
 rw [←hFX] at DA
 have MI:=hid (fun w=>minusN_any x h0 h1 w)
 have TT:=hid (fun v w h=>tenTimes_any v D 1200 1100 (p:Int) w h (by omega) (by omega) (by omega))
 generalize fxT x p mode=T at *
 generalize fxC x p=C at *
 generalize negB x=ng at *
 generalize ptd (decD N) p=T2 at *
 clear hFX hFN hFC hN hNE lD lp d1 d4 s1 s2 hE E hd0
 go_enter Tryz.func136,Tryz.ntmps136
 go_upto_region 2 with (first
  |(go_at_call 54;(with_reducible refine (QV.out _).mono ?_);rintro en w1 ⟨v,rfl,hqv,hb1⟩)
  |(go_at_call 196;(with_reducible refine (TT.out _ _ hqv).mono ?_);rintro en w5 ⟨a,b,v2,rfl,⟨a8,c8,a9,c9,rfl,hNa,hNb⟩,hb0,hab,la,lb,hb5⟩))
 have hzz:=zv_made2 (tz:=31) hNa hNb
 refine wp_worldZ (fun WW=>Below w5.heap.size w5 WW∧ZV 31 3 WW w5.heap.size (a:Int)∧ZV 31 3 WW (w5.heap.size+1) (b:Int)) hzz ?_
 intro W5 ⟨y6,z8,z9⟩
 obtain ⟨g9,hg9⟩: ∃g,g=w5.heap.size+1:=⟨_,rfl⟩
 obtain ⟨g8,hg8⟩: ∃g,g=w5.heap.size:=⟨_,rfl⟩
 have y7:=below_trans (below_trans hb1 hb5) y6
 rw [←hg9] at z9 ⊢
 rw [←hg8] at z8 ⊢
 have RM2:=hid (RM.out a b hb0 hab la lb)
 clear hg8 hg9 hzz hNa hNb hb1 hb5 y6 hab la lb hb0 RM TT QV hqv
 refine wp_region_growL 10 8 [20,21,22,23,24,25,19,26,27,10] [Fact.z 3 ((a:Int)),Fact.z 3 ((b:Int)),Fact.is (.int .u64 x),Fact.is (.bool ng),Fact.is (.int .i64 mode),Fact.zb 3 (N:Int) C,Fact.zb 3 (N:Int) C,Fact.z 3 (N:Int),Fact.is (.bool C),Fact.z0 W5.heap.size 31] [9] (by kernel_rfl) (by kernel_rfl) rfl ⟨?o0,?o1,?o2,?o3,?o4,?o5,?o6,?o7,?o8,?o9,trivial⟩ ?late (fun d _ _ _ _ h=>by cases d<;>exact h) ?after
 case o0=>(refine oQF rfl ?_;intro ρ w1 R hcon hfn hρ hb hp hR;have e8:ρ (.tmp 8)=.pointer (some ⟨g8,0,none⟩):=hρ.tmp 8 rfl;obtain ⟨ya9,yc9,yj9,yn9⟩:=ZV.below z8 hb;obtain ⟨j90,j91,-⟩:=yj9;replace hR:=fun v w2 h1 h2=>hR v w2 h1 h2 (fun h=>absurd h (by decide));clear hρ hp;unfold OpRun;go_simp;exact hR _ _ (Below.refl _ _) ⟨ya9,yc9,rfl,yn9⟩)
 case o1=>(refine oQF rfl ?_;intro ρ w1 R hcon hfn hρ hb hp hR;have e9:ρ (.tmp 9)=.pointer (some ⟨g9,0,none⟩):=hρ.tmp 9 rfl;obtain ⟨ya9,yc9,yj9,yn9⟩:=ZV.below z9 hb;obtain ⟨j90,j91,-⟩:=yj9;replace hR:=fun v w2 h1 h2=>hR v w2 h1 h2 (fun h=>absurd h (by decide));clear hρ hp;unfold OpRun;go_simp;exact hR _ _ (Below.refl _ _) ⟨ya9,yc9,rfl,yn9⟩)
 case o2=>(refine oQF rfl ?_;intro ρ w1 R hcon hfn hρ hb hp hR;have e0:ρ (.tmp 0)=.int .u64 x:=hρ.tmp 0 rfl;replace hR:=fun v w2 h1 h2=>hR v w2 h1 h2 (fun h=>absurd h (by decide));clear hρ hp;unfold OpRun;go_simp;exact hR _ _ (Below.refl _ _) rfl)
 case o3=>(refine oQF rfl ?_;intro ρ w1 R hcon hfn hρ hb hp hR;have e22:ρ (.tmp 22)=_:=hp 2 22 rfl rfl;replace hR:=fun v w2 h1 h2=>hR v w2 h1 h2 (fun h=>absurd h (by decide));clear hρ hp;unfold OpRun;go_simp;(refine (MI.out _).mono ?_;rintro e wn ⟨rfl,rfl⟩;exact ⟨_,rfl,hR _ _ (Below.refl _ _) rfl⟩))
 case o4=>(refine oQF rfl ?_;intro ρ w1 R hcon hfn hρ hb hp hR;have e2:ρ (.tmp 2)=.int .i64 mode:=hρ.tmp 2 rfl;replace hR:=fun v w2 h1 h2=>hR v w2 h1 h2 (fun h=>absurd h (by decide));clear hρ hp;unfold OpRun;go_simp;exact hR _ _ (Below.refl _ _) rfl)
 case o5=>(refine oQF rfl ?_;intro ρ w1 R hcon hfn hρ hb hp hR;have f20:=hp 0 20 rfl rfl;have f21:=hp 1 21 rfl rfl;have e23:ρ (.tmp 23)=_:=hp 3 23 rfl rfl;have e24:ρ (.tmp 24)=_:=hp 4 24 rfl rfl;replace hR:=fun v w2 h1 h2=>hR v w2 h1 h2 (fun h=>absurd h (by decide));clear hρ hp;unfold OpRun;go_simp;(refine (RM2.out _ _ _ f20 f21).mono ?_;rintro e wn ⟨v9,rfl,hz9,hbn⟩;exact ⟨_,rfl,hR _ _ hbn ⟨v9,rfl,hz9⟩⟩))
 case o6=>(refine oQF rfl ?_;intro ρ w1 R hcon hfn hρ hb hp hR;have f25:=hp 5 25 rfl rfl;replace hR:=fun v w2 h1 h2=>hR v w2 h1 h2 (fun h=>absurd h (by decide));clear hρ hp;unfold OpRun;go_simp;exact hR _ _ (Below.refl _ _) f25)
 case o7=>(refine oQF rfl ?_;intro ρ w1 R hcon hfn hρ hb hp hR;have f19:=hp 6 19 rfl rfl;obtain ⟨v9,e19,hz9⟩:=f19;replace hR:=fun v w2 h1 h2=>hR v w2 h1 h2 (fun h=>absurd h (by decide));clear hρ hp;unfold OpRun;go_simp;exact hR _ _ (Below.refl _ _) hz9)
 case o8=>(refine oQF rfl ?_;intro ρ w1 R hcon hfn hρ hb hp hR;have f19:=hp 6 19 rfl rfl;obtain ⟨v9,e19,hz9⟩:=f19;replace hR:=fun v w2 h1 h2=>hR v w2 h1 h2 (fun h=>absurd h (by decide));clear hρ hp;unfold OpRun;go_simp;exact hR _ _ (Below.refl _ _) rfl)
 case o9=>(refine oQF rfl ?_;intro ρ w1 R hcon hfn hρ hb hp hR;clear hρ hp;unfold OpRun;go_simp;exact hR _ _ (below_alloc _ _) ⟨_,rfl,hb.size,ZL.made rfl⟩ (fun _=>⟨_,rfl,Nat.le_refl _,by simp⟩))
 case late=>
  intro o ho
  simp only [List.getElem?_cons_succ,List.getElem?_cons_zero,Option.some.injEq] at ho
  subst ho
  refine ⟨rfl,?_⟩
  intro ρ w1 hρ hb hp
  have f19:=hp 6 19 rfl rfl
  obtain ⟨v9,e19,hz9⟩:=f19
  refine ⟨_,?_,rfl⟩
  intro w2
  have hcon:=hρ.con
  go_simp
  try rfl
 case after=>
  intro u wn hb hf hd
  have f26:=hf 7 26 (by omega) rfl
  have f27:=hf 8 27 (by omega) rfl
  have f10:=hf 9 10 (by omega) rfl
  clear hf hd
  simp only [putAll,Act.put,List.setIfInBounds_toArray,List.set_cons_zero,List.set_cons_succ,List.drop_succ_cons,List.drop_zero,List.drop_nil]
  have e27:u 27=.bool C:=f27
  rw [e27]
  clear e27 f27
  obtain ⟨xa1,xc1,xe1,xn1⟩:=f26
  obtain ⟨gv10,eg1,hg1,zz1⟩:=f10
  rw [xe1,eg1]
  clear xe1 eg1
  have zst:=zv_store1 (by decide) hb hg1 zz1 xn1
  obtain ⟨k0,k1,kf0,kf1,-⟩:=id zz1
  go_upto_region 3 with fail
  clear k0 k1 kf0 kf1 zz1 xn1 hb
  refine wp_worldZ (fun WW=>Below _ _ WW∧ZV _ _ WW _ _) zst ?_
  clear zst
  intro W6 ⟨y8,z10⟩
  have y9:=below_trans y7 y8
  obtain ⟨x10,d10,zl10,n10⟩:=z10
  obtain ⟨l0,l1,-⟩:=zl10
  have PT2:=hid (fun w h=>PT.out (.agg #[.bool (zneg (N:Int)),.slice x10 (zl (N:Int)).length d10]) w ⟨x10,d10,rfl,h⟩)
  have N10:=hid n10
  clear n10 y8 y7 z8 z9 PT hg1
  go_wp2_with (first
   |(go_at_call 199;(with_reducible refine (PT2.out _ N10.out).mono ?_);rintro en w7 ⟨rfl,hb7⟩)
   |(go_at_call 198;(with_reducible refine (DA.out _).mono ?_);rintro en w8 ⟨rfl,rfl⟩))
  go_ret2
  exact ⟨rfl,below_trans y9 hb7⟩
theorem decade_any (v:Value) (D:Dy) (pd:Int) (w:World) (hv:QD 3 w D 1200 1100 v) (hD:D.1≠0) (hp:IsDec (dA D) (dB D) pd) (hpb: -3000≤pd∧pd≤3000):
 Calls Tryz.prog 200 #[v] w fun e w'=>e=.returned (.int .i64 pd)∧Below w.heap.size w w':=by
 obtain ⟨X,n,ao,cap,rfl,hN,hDX,hX,hn⟩:=hv
 have hr:=nrm_ratio hDX
 have lX:=zl_len_bits X 1200 hX
 have lP:=zl_len_pw n
 have hX0:0<X.natAbs:=by
  rcases Nat.eq_zero_or_pos X.natAbs with h|h
  ·exfalso;apply hD;rw [←hDX,show X=0 by omega];rfl
  ·exact h
 have hg:=dec_guess hX0 hr hp
 have TT:=hid (fun (c:Int) w (h:Nz 3 w ao cap (zl X)) (hc: -10000≤c∧c≤10000)=>tenTimes_any (.agg #[.bool (zneg X),.slice ao (zl X).length cap,.int .i64 (n:Int)]) D 1200 1100 c w ⟨X,n,ao,cap,rfl,h,hDX,hX,hn⟩ (by omega) (by omega) hc)
 have HC:=hid (show ∀(a b:Nat) (c:Int),0<b→a*(dB D*tnN (- -c))=dA D*tnN (-c)*b→(0≤cmpI (a:Int) (b:Int))=(c≤pd) from fun a b c hb hab=>tt_cmp hb hab hp)
 have lda:(decD X.natAbs).length≤1200:=decD_bits _ 1200 hX (by omega)
 have ldb:(decD (2^n)).length≤1200:=Nat.le_trans (decD_bits _ (n+1) (Nat.pow_lt_pow_right (by omega) (by omega)) (by omega)) (by omega)
 obtain ⟨la,hla⟩: ∃l,l=(decD X.natAbs).length:=⟨_,rfl⟩
 obtain ⟨lb,hlb⟩: ∃l,l=(decD (2^n)).length:=⟨_,rfl⟩
 rw [←hla,←hlb] at hg
 rw [←hla] at lda
 rw [←hlb] at ldb
 have hTa:bsOf (zTx ((X.natAbs:Nat):Int))=bsOf (decD X.natAbs):=by unfold zTx;rw [if_neg (by omega),Int.natAbs_natCast]
 have hTb:bsOf (zTx (pw n))=bsOf (decD (2^n)):=by unfold zTx;rw [if_neg (by have:=pw_pos n;omega),pw_abs]
 have HTA:=hid hTa
 have HTB:=hid hTb
 have sza:(bsOf (decD X.natAbs)).size=la:=by rw [bs_size,hla]
 have szb:(bsOf (decD (2^n))).size=lb:=by rw [bs_size,hlb]
 have H0:=hid hN
 have lXa:(zl (X.natAbs:Int)).length≤1000000:=by rw [zl_nat];exact Nat.le_trans lX (by omega)
 have lPa:(zl (pw n)).length≤1000000:=by omega
 generalize decD X.natAbs=T1 at *
 generalize decD (2^n)=T2 at *
 clear hN hDX hr hX hTa hTb hla hlb hD hp hX0 lP
 have zQ:QL 33 (w.alloc (.cells #[.bool (zneg X),.slice ao (zl X).length cap,.int .i64 (n:Int)] 33)) w.heap.size (zneg X) (.slice ao (zl X).length cap) (n:Int):=QL.made rfl
 have yb0:=below_alloc w (.cells #[.bool (zneg X),.slice ao (zl X).length cap,.int .i64 (n:Int)] 33)
 go_enter Tryz.func200,Tryz.ntmps200
 go_upto_region 1 with fail
 refine wp_worldZ (fun WW=>Below w.heap.size w WW∧QL 33 WW w.heap.size (zneg X) (.slice ao (zl X).length cap) (n:Int)∧Nz 3 WW ao cap (zl X)) ⟨yb0,zQ,H0.out.below yb0⟩ ?_
 intro W1 ⟨y1,z1,hN1⟩
 obtain ⟨g1,hg1⟩: ∃g,g=w.heap.size:=⟨_,rfl⟩
 rw [←hg1] at z1 ⊢
 have zV:ZV 33 3 W1 g1 X:=⟨ao,cap,z1.1,hN1⟩
 have c2:=z1.2.1
 clear hg1 zQ yb0 H0
 refine wp_region_growF 8 [8,9,10,11,12,13,3,4] [Fact.is (.pointer (some ⟨g1,0,none⟩)),Fact.z 3 (X),Fact.z 3 (((X).natAbs:Int)),Fact.is (.pointer (some ⟨g1,2,none⟩)),Fact.is (.int .i64 (n:Int)),Fact.z 3 (pw n),Fact.z0 W1.heap.size 31,Fact.z0 W1.heap.size 31] [6,7] (by kernel_rfl) (by kernel_rfl) ⟨?o0,?o1,?o2,?o3,?o4,?o5,?o6,?o7,trivial⟩ ?after
 case o0=>(refine oQF rfl ?_;intro ρ w1 R hcon hfn hρ hb hp hR;have e1:ρ (.tmp 1)=.pointer (some ⟨g1,0,none⟩):=hρ.tmp 1 rfl;replace hR:=fun v w2 h1 h2=>hR v w2 h1 h2 (fun h=>absurd h (by decide));clear hρ hp;unfold OpRun;go_simp;exact hR _ _ (Below.refl _ _) rfl)
 case o1=>(refine oQF rfl ?_;intro ρ w1 R hcon hfn hρ hb hp hR;have e8:ρ (.tmp 8)=_:=hp 0 8 rfl rfl;obtain ⟨ya9,yc9,yj9,yn9⟩:=ZV.below zV hb;obtain ⟨j90,j91,-⟩:=yj9;replace hR:=fun v w2 h1 h2=>hR v w2 h1 h2 (fun h=>absurd h (by decide));clear hρ hp;unfold OpRun;go_simp;exact hR _ _ (Below.refl _ _) ⟨ya9,yc9,rfl,yn9⟩)
 case o2=>(refine oQF rfl ?_;intro ρ w1 R hcon hfn hρ hb hp hR;have f9:=hp 1 9 rfl rfl;replace hR:=fun v w2 h1 h2=>hR v w2 h1 h2 (fun h=>absurd h (by decide));clear hρ hp;unfold OpRun;go_simp;(refine (zabsD _ _ _ f9).mono ?_;rintro e wn ⟨v9,rfl,hz9,hbn⟩;exact ⟨_,rfl,hR _ _ hbn hz9⟩))
 case o3=>(refine oQF rfl ?_;intro ρ w1 R hcon hfn hρ hb hp hR;have e1:ρ (.tmp 1)=.pointer (some ⟨g1,0,none⟩):=hρ.tmp 1 rfl;replace hR:=fun v w2 h1 h2=>hR v w2 h1 h2 (fun h=>absurd h (by decide));clear hρ hp;unfold OpRun;go_simp;exact hR _ _ (Below.refl _ _) rfl)
 case o4=>(refine oQF rfl ?_;intro ρ w1 R hcon hfn hρ hb hp hR;have e11:ρ (.tmp 11)=_:=hp 3 11 rfl rfl;have j12:=(hb.cell (World.block_lt_of_cell? _ _ c2)).trans c2;replace hR:=fun v w2 h1 h2=>hR v w2 h1 h2 (fun h=>absurd h (by decide));clear hρ hp;unfold OpRun;go_simp;exact hR _ _ (Below.refl _ _) rfl)
 case o5=>(refine oQF rfl ?_;intro ρ w1 R hcon hfn hρ hb hp hR;have e12:ρ (.tmp 12)=_:=hp 4 12 rfl rfl;replace hR:=fun v w2 h1 h2=>hR v w2 h1 h2 (fun h=>absurd h (by decide));clear hρ hp;unfold OpRun;go_simp;(refine (zpowD n _ (by first|assumption|omega)).mono ?_;rintro e wn ⟨v9,rfl,hz9,hbn⟩;exact ⟨_,rfl,hR _ _ hbn hz9⟩))
 case o6=>(refine oQF rfl ?_;intro ρ w1 R hcon hfn hρ hb hp hR;clear hρ hp;unfold OpRun;go_simp;exact hR _ _ (below_alloc _ _) ⟨_,rfl,hb.size,ZL.made rfl⟩ (fun _=>⟨_,rfl,Nat.le_refl _,by simp⟩))
 case o7=>(refine oQF rfl ?_;intro ρ w1 R hcon hfn hρ hb hp hR;clear hρ hp;unfold OpRun;go_simp;exact hR _ _ (below_alloc _ _) ⟨_,rfl,hb.size,ZL.made rfl⟩ (fun _=>⟨_,rfl,Nat.le_refl _,by simp⟩))
 case after=>
  intro u wn hb hf hd
  have f10:=hf 2 10 (by omega) rfl
  have f13:=hf 5 13 (by omega) rfl
  have f3:=hf 6 3 (by omega) rfl
  have f4:=hf 7 4 (by omega) rfl
  have d3_4:u 3≠u 4:=hd 6 7 3 4 (by omega) (by omega) (by omega) rfl rfl rfl rfl
  clear hf hd
  simp only [putAll,Act.put,List.setIfInBounds_toArray,List.set_cons_zero,List.set_cons_succ,List.drop_succ_cons,List.drop_zero,List.drop_nil]
  obtain ⟨xa1,xc1,xe1,xn1⟩:=f10
  obtain ⟨xa2,xc2,xe2,xn2⟩:=f13
  obtain ⟨gv3,eg1,hg1,zz1⟩:=f3
  obtain ⟨gv4,eg2,hg2,zz2⟩:=f4
  have gne:gv3≠gv4:=by intro h;apply d3_4;rw [eg1,eg2,h]
  rw [xe1,xe2,eg1,eg2]
  clear xe1 xe2 eg1 eg2 d3_4
  have zst:=zv_store2 (by decide) hb hg1 hg2 gne zz1 zz2 xn1 xn2
  obtain ⟨k0,k1,kf0,kf1,-⟩:=id zz1
  obtain ⟨l0,l1,lf0,lf1,-⟩:=id zz2
  go_upto_region 2 with fail
  clear k0 k1 kf0 kf1 l0 l1 lf0 lf1 zz1 zz2 xn1 xn2 hb
  refine wp_worldZ (fun WW=>Below _ _ WW∧ZV _ _ WW _ _∧ZV _ _ WW _ _) zst ?_
  clear zst
  intro W2 ⟨y12,z3,z4⟩
  have y2:=below_trans y1 y12
  have z1b:=z1.below y12
  have hN2:=hN1.below y12
  clear z1 hN1 zV c2 y1 y12 hg1 hg2 gne
  refine wp_region_grow 8 [14,15,16,17,18,19,20,5] [Fact.z 3 ((X.natAbs:Int)),Fact.is (.string (bsOf T1)),Fact.is (.int .i64 (la:Int)),Fact.z 3 (pw n),Fact.is (.string (bsOf T2)),Fact.is (.int .i64 (lb:Int)),Fact.is (.int .i64 ((la:Int)-(lb:Int))),Fact.is (.int .i64 ((la:Int)-(lb:Int)))] (by kernel_rfl) (by kernel_rfl) ⟨?o0,?o1,?o2,?o3,?o4,?o5,?o6,?o7,trivial⟩ ?after
  case o0=>(refine oQ rfl ?_;intro ρ w1 R hcon hfn hρ hb hp hR;have e3:ρ (.tmp 3)=.pointer (some ⟨gv3,0,none⟩):=hρ.tmp 3 rfl;obtain ⟨ya9,yc9,yj9,yn9⟩:=ZV.below z3 hb;obtain ⟨j90,j91,-⟩:=yj9;clear hρ hp;unfold OpRun;go_simp;exact hR _ _ (Below.refl _ _) ⟨ya9,yc9,rfl,yn9⟩)
  case o1=>(refine oQ rfl ?_;intro ρ w1 R hcon hfn hρ hb hp hR;have f14:=hp 0 14 rfl rfl;have h99:=zTextD _ _ _ f14 (by first|assumption|omega);rw [HTA.out] at h99;clear hρ hp;unfold OpRun;go_simp;(refine (h99).mono ?_;rintro e wn ⟨rfl,hbn⟩;exact ⟨_,rfl,hR _ _ hbn rfl⟩))
  case o2=>(refine oQ rfl ?_;intro ρ w1 R hcon hfn hρ hb hp hR;have e15:ρ (.tmp 15)=_:=hp 1 15 rfl rfl;clear hρ hp;unfold OpRun;go_simp;exact hR _ _ (Below.refl _ _) rfl)
  case o3=>(refine oQ rfl ?_;intro ρ w1 R hcon hfn hρ hb hp hR;have e4:ρ (.tmp 4)=.pointer (some ⟨gv4,0,none⟩):=hρ.tmp 4 rfl;obtain ⟨ya9,yc9,yj9,yn9⟩:=ZV.below z4 hb;obtain ⟨j90,j91,-⟩:=yj9;clear hρ hp;unfold OpRun;go_simp;exact hR _ _ (Below.refl _ _) ⟨ya9,yc9,rfl,yn9⟩)
  case o4=>(refine oQ rfl ?_;intro ρ w1 R hcon hfn hρ hb hp hR;have f17:=hp 3 17 rfl rfl;have h99:=zTextD _ _ _ f17 (by first|assumption|omega);rw [HTB.out] at h99;clear hρ hp;unfold OpRun;go_simp;(refine (h99).mono ?_;rintro e wn ⟨rfl,hbn⟩;exact ⟨_,rfl,hR _ _ hbn rfl⟩))
  case o5=>(refine oQ rfl ?_;intro ρ w1 R hcon hfn hρ hb hp hR;have e18:ρ (.tmp 18)=_:=hp 4 18 rfl rfl;clear hρ hp;unfold OpRun;go_simp;exact hR _ _ (Below.refl _ _) rfl)
  case o6=>(refine oQ rfl ?_;intro ρ w1 R hcon hfn hρ hb hp hR;have e16:ρ (.tmp 16)=_:=hp 2 16 rfl rfl;have e19:ρ (.tmp 19)=_:=hp 5 19 rfl rfl;have hw9:IntKind.i64.wrap ((la:Int)-(lb:Int))=(la:Int)-(lb:Int):=IntWalk.i64_in _ (by omega);clear hρ hp;unfold OpRun;go_simp;exact hR _ _ (Below.refl _ _) rfl)
  case o7=>(refine oQ rfl ?_;intro ρ w1 R hcon hfn hρ hb hp hR;have e20:ρ (.tmp 20)=_:=hp 6 20 rfl rfl;clear hρ hp;unfold OpRun;go_simp;exact hR _ _ (Below.refl _ _) rfl)
  case after=>
   intro u wn hb hf
   have e5:u 5=_:=hf 7 5 (by omega) rfl
   clear hf
   simp only [putAll,Act.put,List.setIfInBounds_toArray,List.set_cons_zero,List.set_cons_succ,List.drop_succ_cons,List.drop_zero,List.drop_nil]
   rw [e5]
   have y3:=below_trans y2 hb
   have H1:=hid (z1b.below hb)
   have HN:=hid (hN2.below hb)
   obtain ⟨W3,hW3⟩: ∃W,W=wn:=⟨_,rfl⟩
   subst hW3
   clear z3 z4 z1b hN2 y2 hb sza szb HTA HTB lXa lPa
   go_wp2_with fail
   go_loopw [5] (fun s5 wr=> ∃c:Int,s5=.int .i64 c∧pd≤c∧c≤1200∧Below W3.heap.size W3 wr) (fun s5 _=>(intOf s5-pd).toNat)
   case atStart=>exact ⟨(la:Int)-(lb:Int),rfl,by omega,by omega,Below.refl _ _⟩
   case round=>
    obtain ⟨c,rfl,c1,c2,hbr⟩:=hrel
    have hwc:IntKind.i64.wrap (-c)= -c:=IntWalk.i64_in _ (by omega)
    have TTc:=hid (TT.out (-c) wr (HN.out.below hbr) (by omega))
    obtain ⟨⟨j0,j1,-⟩,j2,-⟩:=H1.out.below hbr
    go_upto_region 4 with (go_at_call 196;(with_reducible refine TTc.out.mono ?_);rintro en w5 ⟨a,b,v2,rfl,⟨a8,c8,a9,c9,rfl,hNa,hNb⟩,hb0,hab,la2,lb2,hb5⟩)
    have hzz:=zv_made2 (tz:=31) hNa hNb
    refine wp_worldZ (fun WW=>Below w5.heap.size w5 WW∧ZV 31 3 WW w5.heap.size (a:Int)∧ZV 31 3 WW (w5.heap.size+1) (b:Int)) hzz ?_
    intro W5 ⟨y6,z6,z7⟩
    obtain ⟨g7,hg7⟩: ∃g,g=w5.heap.size+1:=⟨_,rfl⟩
    obtain ⟨g6,hg6⟩: ∃g,g=w5.heap.size:=⟨_,rfl⟩
    have y7:=below_trans (below_trans hbr hb5) y6
    rw [←hg7] at z7 ⊢
    rw [←hg6] at z6 ⊢
    have HCC:=hid (HC.out a b c hb0 hab)
    obtain ⟨x6,d6,zl6,n6⟩:=z6
    obtain ⟨x7,d7,zl7,n7⟩:=z7
    have N6:=hid n6
    have N7:=hid n7
    have CM:=hid (fun w h k=>zcmp_any x6 x7 d6 d7 (a:Int) (b:Int) w h k)
    obtain ⟨k0,k1,-⟩:=zl6
    obtain ⟨k2,k3,-⟩:=zl7
    obtain ⟨cc,hcc⟩: ∃cc,cc=cmpI (a:Int) (b:Int):=⟨_,rfl⟩
    rw [←hcc] at CM HCC
    clear hg6 hg7 hzz hNa hNb hb5 y6 hab la2 lb2 hb0 TTc j0 j1 j2 n6 n7 hcc hbr
    by_cases hpc:c≤pd
    ·have h9:0≤cc:=by rw [HCC.out];exact hpc
     have hce:=hid (show c=pd by omega)
     clear hpc HCC
     go_wp2_with (go_at_call 117;(with_reducible refine (CM.out _ N6.out N7.out).mono ?_);rintro en w6 ⟨rfl,hb6⟩)
     go_ret
     exact ⟨by rw [←hce.out];rfl,below_trans (below_trans y3 y7) hb6⟩
    ·have h9: ¬0≤cc:=by rw [HCC.out];exact hpc
     have hwd:IntKind.i64.wrap (c-1)=c-1:=IntWalk.i64_in _ (by omega)
     have HP:=hid (show pd≤c-1 by omega)
     clear hpc HCC
     go_wp2_with (go_at_call 117;(with_reducible refine (CM.out _ N6.out N7.out).mono ?_);rintro en w6 ⟨rfl,hb6⟩)
     go_roundw
     case rel=>exact ⟨c-1,rfl,HP.out,by omega,below_trans y7 hb6⟩
     case measure=>have:=HP.out;simp [intOf];omega
end Go.Proofs.YtfphmlmgjhebjaaGreatDoor
