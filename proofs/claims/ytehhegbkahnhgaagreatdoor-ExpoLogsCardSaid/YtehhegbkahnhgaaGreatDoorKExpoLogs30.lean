/- ExpoLogs: what the proof leans on, part 30 (Si2 Li3). -/
import Derived.Test.YtehhegbkahnhgaaGreatDoorKExpoLogs26
import Derived.Test.YtehhegbkahnhgaaGreatDoorKExpoLogs27
import Derived.Test.YtehhegbkahnhgaaGreatDoorKExpoLogs29
set_option linter.unusedVariables false
set_option linter.unusedSimpArgs false
namespace Go.Ulp
open Go.RowKit
def GoodLn (m:Nat) (e:Int) (t:Nat) (x:Int×Int):Prop:=LnOK m e (10^t) 100 x∧x.1.natAbs≤10^(t+1650)∧x.2.natAbs≤10^(t+1650)
theorem two_bits (X:Nat) (hX:X<2^400000):X+X≤10^140000:=by
 obtain ⟨z,hz⟩: ∃z,z=140000:=⟨_,rfl⟩
 obtain ⟨b,hb⟩: ∃b,b=400000:=⟨_,rfl⟩
 rw [←hb] at hX
 rw [←hz]
 have a2:X+X≤2^(3*z):=by
  have:2^(b+1)≤2^(3*z):=Nat.pow_le_pow_right (by omega) (by omega)
  have e:2^(b+1)=2^b*2:=Nat.pow_succ 2 b
  omega
 have a3:2^(3*z)≤10^z:=by rw [Nat.pow_mul];exact Nat.pow_le_pow_left (by omega) _
 exact Nat.le_trans a2 a3
theorem lnr_fst (T:PP) (k:Int):(sgP (mlP k.natAbs T) (decide (k<0)))=if k<0 then ((T.2:Int)*k,(T.1:Int)*k) else ((T.1:Int)*k,(T.2:Int)*k):=by
 unfold sgP mlP
 by_cases h:k<0
 ·rw [if_pos h,decide_eq_true h,if_pos rfl]
  have e:(k.natAbs:Int)= -k:=by omega
  rw [Int.natCast_mul,Int.natCast_mul,e,Int.mul_neg,Int.mul_neg,Int.neg_neg,Int.neg_neg]
 ·rw [if_neg h,decide_eq_false h,if_neg (by simp)]
  have e:(k.natAbs:Int)=k:=by omega
  rw [Int.natCast_mul,Int.natCast_mul,e]
theorem PI.below {ti:TypeId} {w w':World} {x:Int×Int} {v:Value} (h:PI ti w x v) (hb:Below w.heap.size w w'):PI ti w' x v:=by
 obtain ⟨a,c,b,d,h1,h2,h3⟩:=h;exact ⟨a,c,b,d,h1,h2.below hb,h3.below hb⟩
def Fact.pi (ti:TypeId) (x:Int×Int):Fact:=⟨fun v w=>PI ti w x v,fun _ _ _ h hb=>h.below hb⟩
end Go.Ulp
namespace Go.Proofs.YtehhegbkahnhgaaGreatDoor
open Go.RowKit Go.Ulp
set_option maxHeartbeats 4000000
set_option maxRecDepth 100000
theorem lnBounds_any (m:Nat) (x0:Int) (t:Nat) (v:Value) (w:World) (hv:QD 3 w (nrm (m:Int) x0) 400000 200000 v) (hm:0<m) (hm40:m<2^1280) (he: -3000≤x0∧x0≤3000) (t0:20≤t) (t1:t≤3000000000):
 Calls Tryz.prog 44 #[v,.int .i64 (t:Int)] w (RetGI 3 w (GoodLn m x0) t):=by
 obtain ⟨X,n,a,c,rfl,h0,hX,hXA,hn⟩:=hv
 obtain ⟨N,rfl⟩: ∃N:Nat,X=(N:Int):=by
  have e:=sign_of X n m x0 false hX hm
  unfold zneg at e
  exact Int.eq_ofNat_of_zero_le (by have:=of_decide_eq_false e;omega)
 rw [Int.natAbs_natCast] at hXA
 have hval:=val_of N n m x0 hX
 have hN:0<N:=Nat.pos_of_ne_zero fun h=>by
  have h1:=(nrm_zero_iff (N:Int) (-(n:Int))).2 (by rw [h];rfl)
  rw [hX] at h1
  have:=(nrm_zero_iff (m:Int) x0).1 h1
  omega
 obtain ⟨s,hs⟩: ∃s,s=bl N-1:=⟨_,rfl⟩
 have hs1:2^s≤N:=by rw [hs];exact pow_bl N hN
 have hs2:N<2^(s+1):=by
  have:=(bl_pos N).2 hN
  rw [show s+1=bl N by omega]
  exact lt_bl N
 have hsA:s≤400000:=by
  obtain ⟨A,hA⟩: ∃A,A=400000:=⟨_,rfl⟩
  rw [←hA] at hXA ⊢
  have:=(bl_le N A).2 hXA
  omega
 have big:=two_bits N hXA
 have lN:(zl (N:Int)).length≤1000000:=Nat.le_trans (zl_len_bits _ 400000 (by rw [Int.natAbs_natCast];exact hXA)) (by omega)
 have hs3:2^(s+1)=2^s*2:=Nat.pow_succ 2 s
 obtain ⟨Y,hY⟩: ∃y,y=10^140000:=⟨_,rfl⟩
 rw [←hY] at big
 have TB:=hid (fun w h=>topBit2_any N n a c w h hN hXA hn)
 obtain ⟨kA,hA⟩:=rtOK_ex (N-2^s) (N+2^s) t (by omega) (by omega) (by rw [←hY];omega) (by rw [←hY];omega) t0 t1
 have sm10: ∀x,x≤10→x≤10^140000:=fun x h=>by
  obtain ⟨z,hz⟩: ∃z,z=140000:=⟨_,rfl⟩
  rw [←hz]
  exact Nat.le_trans h (Nat.le_trans (show 10≤10^1 by decide) (Nat.pow_le_pow_right (by omega) (by omega)))
 obtain ⟨k1,h7⟩:=rtOK_ex 1 7 t (by omega) (by omega) (sm10 1 (by omega)) (sm10 7 (by omega)) t0 t1
 obtain ⟨k2,h5⟩:=rtOK_ex 1 5 t (by omega) (by omega) (sm10 1 (by omega)) (sm10 5 (by omega)) t0 t1
 have ok:=lnr_ok hval hm hm40 he hs1 hs2 hA h7 h5
 obtain ⟨hk,-⟩:=ref_top m n N s x0 hval hm hm40 he hs1 hs2
 obtain ⟨K,hK⟩: ∃K,K=(s:Int)-(n:Int):=⟨_,rfl⟩
 rw [←hs,←hK] at TB
 rw [←hK] at ok hk
 obtain ⟨sz1,sz2,p1,p2,-,-⟩:=lnrP_top (X:=N) hk hA h7 h5
 obtain ⟨o1,o2⟩:=hA.top
 obtain ⟨f1,f2⟩:=h7.top
 obtain ⟨g1,g2⟩:=h5.top
 have HG:=hid (show GoodLn m x0 t (lnrP N s K t kA k1 k2) from ⟨ok,sz1,sz2⟩)
 clear sm10 ok sz1 sz2 hY big
 have QS:=hid (fun w h=>qshift_top a c N n s (-K) w h lN hn (by omega) (by omega))
 have B1:=hid (show ∀v u w,ZD 3 w 4 v→ZD 3 w 3 u→Calls Tryz.prog 91 #[v,u,.int .i64 (t:Int)] w (RetPZ 3 w (rtP (frB 1 7 (10^t)) (10^t) k1)) from fun v u w h k=>bothLn_any 4 3 t k1 v u w h k (by omega) h7)
 have B2:=hid (show ∀v u w,ZD 3 w 3 v→ZD 3 w 2 u→Calls Tryz.prog 91 #[v,u,.int .i64 (t:Int)] w (RetPZ 3 w (rtP (frB 1 5 (10^t)) (10^t) k2)) from fun v u w h k=>bothLn_any 3 2 t k2 v u w h k (by omega) h5)
 have B3:=hid (show ∀v u w,ZD 3 w (N:Int) v→ZD 3 w ((2^s:Nat):Int) u→Calls Tryz.prog 91 #[v,u,.int .i64 (t:Int)] w (RetPZ 3 w (rtP (frB (N-2^s) (N+2^s) (10^t)) (10^t) kA)) from fun v u w h k=>bothLn_any N (2^s) t kA v u w h k hs1 hA)
 have N4:=hid (fun w=>zND 4 (by omega) (by omega) w)
 have N3:=hid (fun w=>zND 3 (by omega) (by omega) w)
 have N2:=hid (fun w=>zND 2 (by omega) (by omega) w)
 have NK:=hid (fun w=>zNI K (by omega) (by omega) w)
 have ZP:=hid (show ∀w,Calls Tryz.prog 82 #[.int .i64 (s:Int)] w (RetZD 3 w ((2^s:Nat):Int)) from fun w=>zpowD s w (by omega))
 have HE:=hid (show lnrP N s K t kA k1 k2=addI (((rtP (frB (N-2^s) (N+2^s) (10^t)) (10^t) kA).1:Int),((rtP (frB (N-2^s) (N+2^s) (10^t)) (10^t) kA).2:Int)) (if K<0 then (((plP (rtP (frB 1 7 (10^t)) (10^t) k1) (rtP (frB 1 5 (10^t)) (10^t) k2)).2:Int)*K,((plP (rtP (frB 1 7 (10^t)) (10^t) k1) (rtP (frB 1 5 (10^t)) (10^t) k2)).1:Int)*K) else (((plP (rtP (frB 1 7 (10^t)) (10^t) k1) (rtP (frB 1 5 (10^t)) (10^t) k2)).1:Int)*K,((plP (rtP (frB 1 7 (10^t)) (10^t) k1) (rtP (frB 1 5 (10^t)) (10^t) k2)).2:Int)*K)) from by rw [←lnr_fst];rfl)
 have HPL:=hid (show plP (rtP (frB 1 7 (10^t)) (10^t) k1) (rtP (frB 1 5 (10^t)) (10^t) k2)=((rtP (frB 1 7 (10^t)) (10^t) k1).1+(rtP (frB 1 5 (10^t)) (10^t) k2).1,(rtP (frB 1 7 (10^t)) (10^t) k1).2+(rtP (frB 1 5 (10^t)) (10^t) k2).2) from rfl)
 clear hA h7 h5
 generalize lnrP N s K t kA k1 k2=ANS at *
 generalize rtP (frB (N-2^s) (N+2^s) (10^t)) (10^t) kA=O at *
 generalize plP (rtP (frB 1 7 (10^t)) (10^t) k1) (rtP (frB 1 5 (10^t)) (10^t) k2)=T2 at *
 generalize rtP (frB 1 7 (10^t)) (10^t) k1=F at *
 generalize rtP (frB 1 5 (10^t)) (10^t) k2=G at *
 obtain ⟨O1,O2⟩:=O
 obtain ⟨T1,T3⟩:=T2
 obtain ⟨F1,F2⟩:=F
 obtain ⟨G1,G2⟩:=G
 simp only at p1 p2 o1 o2 f1 f2 g1 g2
 have hT1:F1+G1=T1:=(congrArg Prod.fst HPL.out).symm
 have hT2:F2+G2=T3:=(congrArg Prod.snd HPL.out).symm
 have LK:(zl K).length≤1000000000:=Nat.le_trans (zl_len_bits _ 64 (by omega)) (by omega)
 have A1:=hid (show ∀v u w,ZD 3 w (F1:Int) v→ZD 3 w (G1:Int) u→Calls Tryz.prog 76 #[v,u] w (RetZD 3 w (T1:Int)) from fun v u w h k=>by
  rw [←hT1]
  exact zaddN v u F1 G1 w h k (by have:=zl_le10 f1;omega) (by have:=zl_le10 g1;omega))
 have A2:=hid (show ∀v u w,ZD 3 w (F2:Int) v→ZD 3 w (G2:Int) u→Calls Tryz.prog 76 #[v,u] w (RetZD 3 w (T3:Int)) from fun v u w h k=>by
  rw [←hT2]
  exact zaddN v u F2 G2 w h k (by have:=zl_le10 f2;omega) (by have:=zl_le10 g2;omega))
 have M1:=hid (fun v u w h k=>zmulD v u (T1:Int) K w h k (by have:=zl_le10 p1;omega) LK)
 have M2:=hid (fun v u w h k=>zmulD v u (T3:Int) K w h k (by have:=zl_le10 p2;omega) LK)
 have hKT: ∀T:Nat,T≤10^(t+20)→(zl ((T:Int)*K)).length≤4000000000:=fun T hT=>by
  have e:((T:Int)*K).natAbs≤10^(t+20+4):=by
   rw [Int.natAbs_mul,Int.natAbs_natCast]
   exact mul10 hT (Nat.le_trans hk (show 4300≤10^4 by decide))
  have:=zl_le10I e
  omega
 have lo1:(zl (O1:Int)).length≤4000000000:=by have:=zl_le10 o1;omega
 have lo2:(zl (O2:Int)).length≤4000000000:=by have:=zl_le10 o2;omega
 have hq1:=hKT T1 p1
 have hq2:=hKT T3 p2
 obtain ⟨P1,hP1⟩: ∃P,P=(T1:Int)*K:=⟨_,rfl⟩
 obtain ⟨P2,hP2⟩: ∃P,P=(T3:Int)*K:=⟨_,rfl⟩
 rw [←hP1] at HE M1 hq1
 rw [←hP2] at HE M2 hq2
 have AA:=hid (fun v u w h k=>zaddD v u (O1:Int) P1 w h k lo1 hq1)
 have AB:=hid (fun v u w h k=>zaddD v u (O2:Int) P2 w h k lo2 hq2)
 have AC:=hid (fun v u w h k=>zaddD v u (O1:Int) P2 w h k lo1 hq2)
 have AD:=hid (fun v u w h k=>zaddD v u (O2:Int) P1 w h k lo2 hq1)
 have H0:=hid h0
 have wK:IntKind.i64.wrap (-K)= -K:=IntWalk.i64_in _ (by omega)
 have zA:QL 49 ((w.alloc (.cells #[.bool (zneg (N:Int)),.slice a (zl (N:Int)).length c,.int .i64 (n:Int)] 49)).alloc (.cells #[.bool false,.slice none 0 0,.bool false,.slice none 0 0] 63)) w.heap.size (zneg (N:Int)) (.slice a (zl (N:Int)).length c) (n:Int):=(QL.made rfl).below (below_alloc _ _)
 have zR:BC 63 ((w.alloc (.cells #[.bool (zneg (N:Int)),.slice a (zl (N:Int)).length c,.int .i64 (n:Int)] 49)).alloc (.cells #[.bool false,.slice none 0 0,.bool false,.slice none 0 0] 63)) (w.heap.size+1) false (.slice none 0 0) false (.slice none 0 0):=BC.made (by simp)
 have yb0:Below w.heap.size w ((w.alloc (.cells #[.bool (zneg (N:Int)),.slice a (zl (N:Int)).length c,.int .i64 (n:Int)] 49)).alloc (.cells #[.bool false,.slice none 0 0,.bool false,.slice none 0 0] 63)):=by (repeat' first|(with_reducible first|assumption|apply bR|apply bA|apply bN|apply bD|apply bL|apply bS)|refine bT ?_ (by assumption)|go_size)
 clear h0 hX hXA hval hN hs hs1 hs2 hs3 hK hk HPL hT1 hT2 p1 p2 o1 o2 f1 f2 g1 g2 lo1 lo2 hq1 hq2 hKT LK hP1 hP2 lN
 go_enter Tryz.func44,Tryz.ntmps44
 go_upto_region 1 with fail
 refine wp_worldZ (fun WW=>Below w.heap.size w WW∧QL 49 WW w.heap.size (zneg (N:Int)) (.slice a (zl (N:Int)).length c) (n:Int)∧BC 63 WW (w.heap.size+1) false (.slice none 0 0) false (.slice none 0 0)) ⟨yb0,zA,zR⟩ ?_
 clear zA zR yb0
 intro W1 ⟨yb1,zA,zR⟩
 obtain ⟨⟨j0,j1,-⟩,j2,-⟩:=id zA
 have TB2:=hid (show ∀w',Below w.heap.size w w'→Calls Tryz.prog 90 #[.agg #[.bool (zneg (N:Int)),.slice a (zl (N:Int)).length c,.int .i64 (n:Int)]] w' fun e w''=>e=.returned (.int .i64 K)∧Below w'.heap.size w' w'' from fun w' hb=>by rw [zneg_nat];exact TB.out w' (H0.out.below hb))
 go_upto_region 2 with (go_at_call 90;(with_reducible refine (TB2.out _ yb1).mono ?_);rintro en w2 ⟨rfl,hb2⟩)
 have yb2:=below_trans yb1 hb2
 have zR2:=zR.below hb2
 have zA2:=zA.below hb2
 clear yb1 zA zR hb2 j0 j1 j2 TB TB2
 obtain ⟨⟨j0,j1,-⟩,j2,-⟩:=id zA2
 go_upto_region 3 with (go_at_call 87;(with_reducible refine (QS.out _ (H0.out.below yb2)).mono ?_);rintro en w3 ⟨a3,c3,rfl,m3,hb3⟩)
 have yb3:=below_trans yb2 hb3
 have zR3:=zR2.below hb3
 have z60:QL 49 (w3.alloc (.cells #[.bool (zneg (N:Int)),.slice a3 (zl (N:Int)).length c3,.int .i64 (s:Int)] 49)) w3.heap.size false (.slice a3 (zl (N:Int)).length c3) (s:Int):=by rw [zneg_nat];exact QL.made rfl
 refine wp_worldZ (fun WW=>Below w.heap.size w WW∧BC 63 WW (w.heap.size+1) false (.slice none 0 0) false (.slice none 0 0)∧QL 49 WW w3.heap.size false (.slice a3 (zl (N:Int)).length c3) (s:Int)∧Nz 3 WW a3 c3 (zl (N:Int))) ⟨below_trans yb3 (below_alloc _ _),zR3.below (below_alloc _ _),z60,m3.below (below_alloc _ _)⟩ ?_
 obtain ⟨g6,hg6⟩: ∃g,g=w3.heap.size:=⟨_,rfl⟩
 rw [←hg6]
 clear yb2 yb3 zR2 zR3 zA2 z60 m3 hb3 hg6 j0 j1 j2 QS
 intro W3 ⟨yb3,zR,z6,m6⟩
 go_wp2_with fail
 refine (N4.out _).mono ?_
 rintro en w4 ⟨v4,rfl,hv4,hb4⟩
 go_wp2_with fail
 refine (N3.out _).mono ?_
 rintro en w5 ⟨v5,rfl,hv5,hb5⟩
 go_wp2_with fail
 refine (B1.out _ _ _ (hv4.below hb5) hv5).mono ?_
 rintro en w6 ⟨v6,rfl,⟨aF,cF,bF,dF,rfl,nF1,nF2⟩,hb6⟩
 go_wp2_with fail
 refine (N3.out _).mono ?_
 rintro en w7 ⟨v7,rfl,hv7,hb7⟩
 go_wp2_with fail
 refine (N2.out _).mono ?_
 rintro en w8 ⟨v8,rfl,hv8,hb8⟩
 go_wp2_with fail
 refine (B2.out _ _ _ (hv7.below hb8) hv8).mono ?_
 rintro en w9 ⟨v9,rfl,⟨aG,cG,bG,dG,rfl,nG1,nG2⟩,hb9⟩
 go_upto_region 4 with fail
 have hb69:=below_trans (below_trans hb7 hb8) hb9
 have hb49:=below_trans (below_trans (below_trans hb4 hb5) hb6) hb69
 have yb9:=below_trans yb3 hb49
 have zR9:=zR.below hb49
 have z69:=z6.below hb49
 have m69:=m6.below hb49
 have nF19:=nF1.below hb69
 have nF29:=nF2.below hb69
 clear yb3 zR z6 m6 hv4 hv5 hv7 hv8 hb4 hb5 hb6 hb7 hb8 hb9 hb69 hb49 nF1 nF2
 refine wp_worldZ (fun WW=>Below w.heap.size w WW∧BC 63 WW (w.heap.size+1) false (.slice none 0 0) false (.slice none 0 0)∧QL 49 WW g6 false (.slice a3 (zl (N:Int)).length c3) (s:Int)∧Nz 3 WW a3 c3 (zl (N:Int))∧BV 63 3 WW w9.heap.size (F1,F2)∧BV 63 3 WW (w9.heap.size+1) (G1,G2)) ⟨below_trans (below_trans yb9 (below_alloc _ _)) (below_alloc _ _),(zR9.below (below_alloc _ _)).below (below_alloc _ _),(z69.below (below_alloc _ _)).below (below_alloc _ _),(m69.below (below_alloc _ _)).below (below_alloc _ _),(BV.made (x:=(F1,F2)) rfl nF19 nF29).below (below_alloc _ _),BV.made (x:=(G1,G2)) (by simp) (nG1.below (below_alloc _ _)) (nG2.below (below_alloc _ _))⟩ ?_
 obtain ⟨g7,hg7⟩: ∃g,g=w9.heap.size:=⟨_,rfl⟩
 rw [←hg7]
 clear yb9 zR9 z69 m69 nF19 nF29 nG1 nG2 hg7 B1 B2 N4 N3 N2
 intro W4 ⟨yb4,zR,z6,m6,z7,z8⟩
 refine wp_region_growF 12 [27,28,29,30,31,32,33,34,35,36,37,9] [Fact.is (.pointer (some ⟨g7,0,none⟩)),Fact.z 3 (F1:Int),Fact.is (.pointer (some ⟨g7+1,0,none⟩)),Fact.z 3 (G1:Int),Fact.z 3 (T1:Int),Fact.is (.pointer (some ⟨g7,2,none⟩)),Fact.z 3 (F2:Int),Fact.is (.pointer (some ⟨g7+1,2,none⟩)),Fact.z 3 (G2:Int),Fact.z 3 (T3:Int),Fact.pz 3 (T1,T3),Fact.b0 W4.heap.size 63] [11] (by kernel_rfl) (by kernel_rfl) ⟨?o0,?o1,?o2,?o3,?o4,?o5,?o6,?o7,?o8,?o9,?o10,?o11,trivial⟩ ?after
 case o0=>(refine oQF rfl ?_;intro ρ w1 R hcon hfn hρ hb hp hR;have e7:ρ (.tmp 7)=.pointer (some ⟨g7,0,none⟩):=hρ.tmp 7 rfl;replace hR:=fun v w2 h1 h2=>hR v w2 h1 h2 (fun h=>absurd h (by decide));clear hρ hp;unfold OpRun;go_simp;exact hR _ _ (Below.refl _ _) rfl)
 case o1=>(refine oQF rfl ?_;intro ρ w1 R hcon hfn hρ hb hp hR;have e27:ρ (.tmp 27)=_:=hp 0 27 rfl rfl;obtain ⟨qa,qc,q0,q1,qz⟩:=(z7.below hb).lo;replace hR:=fun v w2 h1 h2=>hR v w2 h1 h2 (fun h=>absurd h (by decide));clear hρ hp;unfold OpRun;go_simp;exact hR _ _ (Below.refl _ _) qz)
 case o2=>(refine oQF rfl ?_;intro ρ w1 R hcon hfn hρ hb hp hR;have e8:ρ (.tmp 8)=.pointer (some ⟨(g7+1),0,none⟩):=hρ.tmp 8 rfl;replace hR:=fun v w2 h1 h2=>hR v w2 h1 h2 (fun h=>absurd h (by decide));clear hρ hp;unfold OpRun;go_simp;exact hR _ _ (Below.refl _ _) rfl)
 case o3=>(refine oQF rfl ?_;intro ρ w1 R hcon hfn hρ hb hp hR;have e29:ρ (.tmp 29)=_:=hp 2 29 rfl rfl;obtain ⟨qa,qc,q0,q1,qz⟩:=(z8.below hb).lo;replace hR:=fun v w2 h1 h2=>hR v w2 h1 h2 (fun h=>absurd h (by decide));clear hρ hp;unfold OpRun;go_simp;exact hR _ _ (Below.refl _ _) qz)
 case o4=>(refine oQF rfl ?_;intro ρ w1 R hcon hfn hρ hb hp hR;have f28:=hp 1 28 rfl rfl;have f30:=hp 3 30 rfl rfl;replace hR:=fun v w2 h1 h2=>hR v w2 h1 h2 (fun h=>absurd h (by decide));clear hρ hp;unfold OpRun;go_simp;(refine (A1.out _ _ _ f28 f30).mono ?_;rintro e wn ⟨v9,rfl,hv9,hbn⟩;exact ⟨_,rfl,hR _ _ hbn hv9⟩))
 case o5=>(refine oQF rfl ?_;intro ρ w1 R hcon hfn hρ hb hp hR;have e7:ρ (.tmp 7)=.pointer (some ⟨g7,0,none⟩):=hρ.tmp 7 rfl;replace hR:=fun v w2 h1 h2=>hR v w2 h1 h2 (fun h=>absurd h (by decide));clear hρ hp;unfold OpRun;go_simp;exact hR _ _ (Below.refl _ _) rfl)
 case o6=>(refine oQF rfl ?_;intro ρ w1 R hcon hfn hρ hb hp hR;have e32:ρ (.tmp 32)=_:=hp 5 32 rfl rfl;obtain ⟨qa,qc,q0,q1,qz⟩:=(z7.below hb).hi;replace hR:=fun v w2 h1 h2=>hR v w2 h1 h2 (fun h=>absurd h (by decide));clear hρ hp;unfold OpRun;go_simp;exact hR _ _ (Below.refl _ _) qz)
 case o7=>(refine oQF rfl ?_;intro ρ w1 R hcon hfn hρ hb hp hR;have e8:ρ (.tmp 8)=.pointer (some ⟨(g7+1),0,none⟩):=hρ.tmp 8 rfl;replace hR:=fun v w2 h1 h2=>hR v w2 h1 h2 (fun h=>absurd h (by decide));clear hρ hp;unfold OpRun;go_simp;exact hR _ _ (Below.refl _ _) rfl)
 case o8=>(refine oQF rfl ?_;intro ρ w1 R hcon hfn hρ hb hp hR;have e34:ρ (.tmp 34)=_:=hp 7 34 rfl rfl;obtain ⟨qa,qc,q0,q1,qz⟩:=(z8.below hb).hi;replace hR:=fun v w2 h1 h2=>hR v w2 h1 h2 (fun h=>absurd h (by decide));clear hρ hp;unfold OpRun;go_simp;exact hR _ _ (Below.refl _ _) qz)
 case o9=>(refine oQF rfl ?_;intro ρ w1 R hcon hfn hρ hb hp hR;have f33:=hp 6 33 rfl rfl;have f35:=hp 8 35 rfl rfl;replace hR:=fun v w2 h1 h2=>hR v w2 h1 h2 (fun h=>absurd h (by decide));clear hρ hp;unfold OpRun;go_simp;(refine (A2.out _ _ _ f33 f35).mono ?_;rintro e wn ⟨v9,rfl,hv9,hbn⟩;exact ⟨_,rfl,hR _ _ hbn hv9⟩))
 case o10=>(refine oQF rfl ?_;intro ρ w1 R hcon hfn hρ hb hp hR;have f31:=hp 4 31 rfl rfl;have f36:=hp 9 36 rfl rfl;replace hR:=fun v w2 h1 h2=>hR v w2 h1 h2 (fun h=>absurd h (by decide));clear hρ hp;unfold OpRun;go_simp;(obtain ⟨a91,c91,e91,n91⟩:=ZD.toN f31;obtain ⟨a92,c92,e92,n92⟩:=ZD.toN f36;rw [e91,e92];exact hR _ _ (Below.refl _ _) (PZ.mk (x:=(T1,T3)) n91 n92)))
 case o11=>(refine oQF rfl ?_;intro ρ w1 R hcon hfn hρ hb hp hR;clear hρ hp;unfold OpRun;go_simp;exact hR _ _ (below_alloc _ _) ⟨_,rfl,hb.size,BC.made rfl⟩ (fun _=>⟨_,rfl,Nat.le_refl _,by simp⟩))
 case after=>
  intro u wn hb hf hd
  have f37:=hf 10 37 (by omega) rfl
  have f9:=hf 11 9 (by omega) rfl
  clear hf hd
  simp only [putAll,Act.put,List.setIfInBounds_toArray,List.set_cons_zero,List.set_cons_succ,List.drop_succ_cons,List.drop_zero,List.drop_nil]
  obtain ⟨a37,c37,b37,d37,e37,m1,m2⟩:=f37
  obtain ⟨g9,e9,hg9,z9⟩:=f9
  rw [e37,e9]
  clear e37 e9 z7 z8 A1 A2
  obtain ⟨⟨k0,k1,k2,k3⟩,f0,f1,f2,f3,s9⟩:=id z9
  have lt6:=z6.lt
  have ltR:=zR.lt
  replace yb4:=below_trans yb4 hb
  replace zR:=zR.below hb
  replace z6:=z6.below hb
  replace m6:=m6.below hb
  have hsz:=yb4.size
  clear hb
  go_upto_region 5 with fail
  have n8:g6≠g9:=by omega
  have n9:w.heap.size+1≠g9:=by omega
  have n10:w.heap.size≤g9:=by omega
  refine wp_worldZ (fun WW=>Below w.heap.size w WW∧BC 63 WW (w.heap.size+1) false (.slice none 0 0) false (.slice none 0 0)∧QL 49 WW g6 false (.slice a3 (zl (N:Int)).length c3) (s:Int)∧Nz 3 WW a3 c3 (zl (N:Int))∧BV 63 3 WW g9 (T1,T3)) ⟨below_pu4 yb4 n10 _ _ _ _,zR.far n9 _ _ _ _,(((z6.far _ _ n8).far _ _ n8).far _ _ n8).far _ _ n8,m6.pu4 s9 (by decide) _ _ _ _,BC.put_bv (x:=(T1,T3)) ⟨⟨k0,k1,k2,k3⟩,f0,f1,f2,f3,s9⟩ (by decide) m1 m2⟩ ?_
  clear yb4 zR z6 m6 z9 k0 k1 k2 k3 f0 f1 f2 f3 s9 m1 m2 hg9 hsz lt6 ltR n8 n9 n10
  intro W5 ⟨yb5,zR,z6,m6,z9⟩
  have zv6:=z6.zvN m6
  refine wp_region_growF 8 [38,39,40,41,42,43,44,10] [Fact.is (.pointer (some ⟨g6,0,none⟩)),Fact.z 3 ((N:Int)),Fact.is (.pointer (some ⟨g6,2,none⟩)),Fact.is (.int .i64 (s:Int)),Fact.z 3 ((2^s:Nat):Int),Fact.is (.int .i64 (t:Int)),Fact.pz 3 (O1,O2),Fact.b0 W5.heap.size 63] [7] (by kernel_rfl) (by kernel_rfl) ⟨?o0,?o1,?o2,?o3,?o4,?o5,?o6,?o7,trivial⟩ ?after
  case o0=>(refine oQF rfl ?_;intro ρ w1 R hcon hfn hρ hb hp hR;have e6:ρ (.tmp 6)=.pointer (some ⟨g6,0,none⟩):=hρ.tmp 6 rfl;replace hR:=fun v w2 h1 h2=>hR v w2 h1 h2 (fun h=>absurd h (by decide));clear hρ hp;unfold OpRun;go_simp;exact hR _ _ (Below.refl _ _) rfl)
  case o1=>(refine oQF rfl ?_;intro ρ w1 R hcon hfn hρ hb hp hR;have e38:ρ (.tmp 38)=_:=hp 0 38 rfl rfl;obtain ⟨ya9,yc9,yj9,yn9⟩:=ZV.below zv6 hb;obtain ⟨j90,j91,-⟩:=yj9;replace hR:=fun v w2 h1 h2=>hR v w2 h1 h2 (fun h=>absurd h (by decide));clear hρ hp;unfold OpRun;go_simp;exact hR _ _ (Below.refl _ _) ⟨ya9,yc9,rfl,yn9⟩)
  case o2=>(refine oQF rfl ?_;intro ρ w1 R hcon hfn hρ hb hp hR;have e6:ρ (.tmp 6)=.pointer (some ⟨g6,0,none⟩):=hρ.tmp 6 rfl;replace hR:=fun v w2 h1 h2=>hR v w2 h1 h2 (fun h=>absurd h (by decide));clear hρ hp;unfold OpRun;go_simp;exact hR _ _ (Below.refl _ _) rfl)
  case o3=>(refine oQF rfl ?_;intro ρ w1 R hcon hfn hρ hb hp hR;have e40:ρ (.tmp 40)=_:=hp 2 40 rfl rfl;obtain ⟨-,j12,-⟩:=z6.below hb;replace hR:=fun v w2 h1 h2=>hR v w2 h1 h2 (fun h=>absurd h (by decide));clear hρ hp;unfold OpRun;go_simp;exact hR _ _ (Below.refl _ _) rfl)
  case o4=>(refine oQF rfl ?_;intro ρ w1 R hcon hfn hρ hb hp hR;have e41:ρ (.tmp 41)=_:=hp 3 41 rfl rfl;replace hR:=fun v w2 h1 h2=>hR v w2 h1 h2 (fun h=>absurd h (by decide));clear hρ hp;unfold OpRun;go_simp;(refine (ZP.out _).mono ?_;rintro e wn ⟨v9,rfl,hv9,hbn⟩;exact ⟨_,rfl,hR _ _ hbn hv9⟩))
  case o5=>(refine oQF rfl ?_;intro ρ w1 R hcon hfn hρ hb hp hR;have e1:ρ (.tmp 1)=.int .i64 (t:Int):=hρ.tmp 1 rfl;replace hR:=fun v w2 h1 h2=>hR v w2 h1 h2 (fun h=>absurd h (by decide));clear hρ hp;unfold OpRun;go_simp;exact hR _ _ (Below.refl _ _) rfl)
  case o6=>(refine oQF rfl ?_;intro ρ w1 R hcon hfn hρ hb hp hR;have f39:=hp 1 39 rfl rfl;have f42:=hp 4 42 rfl rfl;have e43:ρ (.tmp 43)=_:=hp 5 43 rfl rfl;replace hR:=fun v w2 h1 h2=>hR v w2 h1 h2 (fun h=>absurd h (by decide));clear hρ hp;unfold OpRun;go_simp;(refine (B3.out _ _ _ f39 f42).mono ?_;rintro e wn ⟨v9,rfl,hv9,hbn⟩;exact ⟨_,rfl,hR _ _ hbn hv9⟩))
  case o7=>(refine oQF rfl ?_;intro ρ w1 R hcon hfn hρ hb hp hR;clear hρ hp;unfold OpRun;go_simp;exact hR _ _ (below_alloc _ _) ⟨_,rfl,hb.size,BC.made rfl⟩ (fun _=>⟨_,rfl,Nat.le_refl _,by simp⟩))
  case after=>
   intro u wn hb hf hd
   have f44:=hf 6 44 (by omega) rfl
   have f10:=hf 7 10 (by omega) rfl
   clear hf hd
   simp only [putAll,Act.put,List.setIfInBounds_toArray,List.set_cons_zero,List.set_cons_succ,List.drop_succ_cons,List.drop_zero,List.drop_nil]
   obtain ⟨a44,c44,b44,d44,e44,m1,m2⟩:=f44
   obtain ⟨g10,e10,hg10,z10⟩:=f10
   rw [e44,e10]
   clear e44 e10 ZP B3 zv6
   obtain ⟨⟨k0,k1,k2,k3⟩,f0,f1,f2,f3,s9⟩:=id z10
   have lt9:=z9.lt
   have ltR:=zR.lt
   replace yb5:=below_trans yb5 hb
   replace zR:=zR.below hb
   replace z9:=z9.below hb
   have hsz:=yb5.size
   clear hb z6 m6
   go_upto_region 6 with fail
   have n8:g9≠g10:=by omega
   have n9:w.heap.size+1≠g10:=by omega
   have n10:w.heap.size≤g10:=by omega
   refine wp_worldZ (fun WW=>Below w.heap.size w WW∧BC 63 WW (w.heap.size+1) false (.slice none 0 0) false (.slice none 0 0)∧BV 63 3 WW g9 (T1,T3)∧BV 63 3 WW g10 (O1,O2)) ⟨below_pu4 yb5 n10 _ _ _ _,zR.far n9 _ _ _ _,z9.far n8 s9 (by decide) _ _ _ _,BC.put_bv (x:=(O1,O2)) ⟨⟨k0,k1,k2,k3⟩,f0,f1,f2,f3,s9⟩ (by decide) m1 m2⟩ ?_
   clear yb5 zR z9 z10 k0 k1 k2 k3 f0 f1 f2 f3 s9 m1 m2 hg10 hsz lt9 ltR n8 n9 n10
   intro W6 ⟨yb6,zR,z9,z10⟩
   refine wp_region_growF 12 [45,46,47,48,49,50,51,52,53,54,11,12] [Fact.is (.pointer (some ⟨g9,0,none⟩)),Fact.z 3 (T1:Int),Fact.is (.int .i64 K),Fact.z 3 K,Fact.z 3 P1,Fact.is (.pointer (some ⟨g9,2,none⟩)),Fact.z 3 (T3:Int),Fact.is (.int .i64 K),Fact.z 3 K,Fact.z 3 P2,Fact.z0 W6.heap.size 47,Fact.z0 W6.heap.size 47] [10,11] (by kernel_rfl) (by kernel_rfl) ⟨?o0,?o1,?o2,?o3,?o4,?o5,?o6,?o7,?o8,?o9,?o10,?o11,trivial⟩ ?after
   case o0=>(refine oQF rfl ?_;intro ρ w1 R hcon hfn hρ hb hp hR;have e9:ρ (.tmp 9)=.pointer (some ⟨g9,0,none⟩):=hρ.tmp 9 rfl;replace hR:=fun v w2 h1 h2=>hR v w2 h1 h2 (fun h=>absurd h (by decide));clear hρ hp;unfold OpRun;go_simp;exact hR _ _ (Below.refl _ _) rfl)
   case o1=>(refine oQF rfl ?_;intro ρ w1 R hcon hfn hρ hb hp hR;have e45:ρ (.tmp 45)=_:=hp 0 45 rfl rfl;obtain ⟨qa,qc,q0,q1,qz⟩:=(z9.below hb).lo;replace hR:=fun v w2 h1 h2=>hR v w2 h1 h2 (fun h=>absurd h (by decide));clear hρ hp;unfold OpRun;go_simp;exact hR _ _ (Below.refl _ _) qz)
   case o2=>(refine oQF rfl ?_;intro ρ w1 R hcon hfn hρ hb hp hR;have e5:ρ (.tmp 5)=.int .i64 K:=hρ.tmp 5 rfl;replace hR:=fun v w2 h1 h2=>hR v w2 h1 h2 (fun h=>absurd h (by decide));clear hρ hp;unfold OpRun;go_simp;exact hR _ _ (Below.refl _ _) rfl)
   case o3=>(refine oQF rfl ?_;intro ρ w1 R hcon hfn hρ hb hp hR;have e47:ρ (.tmp 47)=_:=hp 2 47 rfl rfl;replace hR:=fun v w2 h1 h2=>hR v w2 h1 h2 (fun h=>absurd h (by decide));clear hρ hp;unfold OpRun;go_simp;(refine (NK.out _).mono ?_;rintro e wn ⟨v9,rfl,hv9,hbn⟩;exact ⟨_,rfl,hR _ _ hbn hv9⟩))
   case o4=>(refine oQF rfl ?_;intro ρ w1 R hcon hfn hρ hb hp hR;have f46:=hp 1 46 rfl rfl;have f48:=hp 3 48 rfl rfl;replace hR:=fun v w2 h1 h2=>hR v w2 h1 h2 (fun h=>absurd h (by decide));clear hρ hp;unfold OpRun;go_simp;(refine (M1.out _ _ _ f46 f48).mono ?_;rintro e wn ⟨v9,rfl,hv9,hbn⟩;exact ⟨_,rfl,hR _ _ hbn hv9⟩))
   case o5=>(refine oQF rfl ?_;intro ρ w1 R hcon hfn hρ hb hp hR;have e9:ρ (.tmp 9)=.pointer (some ⟨g9,0,none⟩):=hρ.tmp 9 rfl;replace hR:=fun v w2 h1 h2=>hR v w2 h1 h2 (fun h=>absurd h (by decide));clear hρ hp;unfold OpRun;go_simp;exact hR _ _ (Below.refl _ _) rfl)
   case o6=>(refine oQF rfl ?_;intro ρ w1 R hcon hfn hρ hb hp hR;have e50:ρ (.tmp 50)=_:=hp 5 50 rfl rfl;obtain ⟨qa,qc,q0,q1,qz⟩:=(z9.below hb).hi;replace hR:=fun v w2 h1 h2=>hR v w2 h1 h2 (fun h=>absurd h (by decide));clear hρ hp;unfold OpRun;go_simp;exact hR _ _ (Below.refl _ _) qz)
   case o7=>(refine oQF rfl ?_;intro ρ w1 R hcon hfn hρ hb hp hR;have e5:ρ (.tmp 5)=.int .i64 K:=hρ.tmp 5 rfl;replace hR:=fun v w2 h1 h2=>hR v w2 h1 h2 (fun h=>absurd h (by decide));clear hρ hp;unfold OpRun;go_simp;exact hR _ _ (Below.refl _ _) rfl)
   case o8=>(refine oQF rfl ?_;intro ρ w1 R hcon hfn hρ hb hp hR;have e52:ρ (.tmp 52)=_:=hp 7 52 rfl rfl;replace hR:=fun v w2 h1 h2=>hR v w2 h1 h2 (fun h=>absurd h (by decide));clear hρ hp;unfold OpRun;go_simp;(refine (NK.out _).mono ?_;rintro e wn ⟨v9,rfl,hv9,hbn⟩;exact ⟨_,rfl,hR _ _ hbn hv9⟩))
   case o9=>(refine oQF rfl ?_;intro ρ w1 R hcon hfn hρ hb hp hR;have f51:=hp 6 51 rfl rfl;have f53:=hp 8 53 rfl rfl;replace hR:=fun v w2 h1 h2=>hR v w2 h1 h2 (fun h=>absurd h (by decide));clear hρ hp;unfold OpRun;go_simp;(refine (M2.out _ _ _ f51 f53).mono ?_;rintro e wn ⟨v9,rfl,hv9,hbn⟩;exact ⟨_,rfl,hR _ _ hbn hv9⟩))
   case o10=>(refine oQF rfl ?_;intro ρ w1 R hcon hfn hρ hb hp hR;clear hρ hp;unfold OpRun;go_simp;exact hR _ _ (below_alloc _ _) ⟨_,rfl,hb.size,ZL.made rfl⟩ (fun _=>⟨_,rfl,Nat.le_refl _,by simp⟩))
   case o11=>(refine oQF rfl ?_;intro ρ w1 R hcon hfn hρ hb hp hR;clear hρ hp;unfold OpRun;go_simp;exact hR _ _ (below_alloc _ _) ⟨_,rfl,hb.size,ZL.made rfl⟩ (fun _=>⟨_,rfl,Nat.le_refl _,by simp⟩))
   case after=>
    intro u wn hb hf hd
    have f49:=hf 4 49 (by omega) rfl
    have f54:=hf 9 54 (by omega) rfl
    have f11:=hf 10 11 (by omega) rfl
    have f12:=hf 11 12 (by omega) rfl
    have d11_12:u 11≠u 12:=hd 10 11 11 12 (by omega) (by omega) (by omega) rfl rfl rfl rfl
    clear hf hd
    simp only [putAll,Act.put,List.setIfInBounds_toArray,List.set_cons_zero,List.set_cons_succ,List.drop_succ_cons,List.drop_zero,List.drop_nil]
    obtain ⟨xa1,xc1,xe1,xn1⟩:=f49
    obtain ⟨xa2,xc2,xe2,xn2⟩:=f54
    obtain ⟨gv11,eg1,hg1,zz1⟩:=f11
    obtain ⟨gv12,eg2,hg2,zz2⟩:=f12
    have gne:gv11≠gv12:=by intro h;apply d11_12;rw [eg1,eg2,h]
    rw [xe1,xe2,eg1,eg2]
    clear xe1 xe2 eg1 eg2 d11_12
    have zst:=zv_store2 (by decide) hb hg1 hg2 gne zz1 zz2 xn1 xn2
    obtain ⟨k0,k1,kf0,kf1,-⟩:=id zz1
    obtain ⟨l0,l1,lf0,lf1,-⟩:=id zz2
    go_upto_region 7 with fail
    clear k0 k1 kf0 kf1 l0 l1 lf0 lf1 zz1 zz2 xn1 xn2 hb
    refine wp_worldZ (fun WW=>Below _ _ WW∧ZV _ _ WW _ _∧ZV _ _ WW _ _) zst ?_
    clear zst
    intro W7 ⟨y7,z11,z12⟩
    clear z9 M1 M2 NK
    by_cases hk:K<0
    ·have HG2:=hid (show GoodLn m x0 t ((O1:Int)+P2,(O2:Int)+P1) from by
      have:=HG.out
      rw [HE.out,if_pos hk] at this
      exact this)
     obtain ⟨a11,c11,l11,m11⟩:=z11
     obtain ⟨a12,c12,l12,m12⟩:=z12
     have hb6:=y7
     obtain ⟨yc7,z11,z12⟩:=zv_store2 (by decide) y7 hg1 hg2 gne l11 l12 m12 m11
     obtain ⟨k0,k1,kf0,kf1,-⟩:=id l11
     obtain ⟨i0,i1,if0,if1,-⟩:=id l12
     go_upto_region 9 with fail
     clear k0 k1 kf0 kf1 i0 i1 if0 if1 l11 l12 m11 m12 hb6 y7 HG HE AA AB
     refine wp_worldZ (fun WW=>Below W6.heap.size W6 WW∧ZV 47 3 WW gv11 P2∧ZV 47 3 WW gv12 P1) ⟨yc7,z11,z12⟩ ?_
     clear yc7 z11 z12
     intro W8 ⟨y7,z11,z12⟩
     have yb7:=below_trans yb6 y7
     have zR7:=zR.below y7
     replace z10:=z10.below y7
     clear y7 hg1 hg2 gne zR
     refine wp_region_grow 9 [59,60,61,62,63,64,65,66,67] [Fact.is (.pointer (some ⟨g10,0,none⟩)),Fact.z 3 (O1:Int),Fact.z 3 (P2),Fact.z 3 ((O1:Int)+P2),Fact.is (.pointer (some ⟨g10,2,none⟩)),Fact.z 3 (O2:Int),Fact.z 3 (P1),Fact.z 3 ((O2:Int)+P1),Fact.pi 3 ((O1:Int)+P2,(O2:Int)+P1)] (by kernel_rfl) (by kernel_rfl) ⟨?o0,?o1,?o2,?o3,?o4,?o5,?o6,?o7,?o8,trivial⟩ ?after
     case o0=>(refine oQ rfl ?_;intro ρ w1 R hcon hfn hρ hb hp hR;have e10:ρ (.tmp 10)=.pointer (some ⟨g10,0,none⟩):=hρ.tmp 10 rfl;clear hρ hp;unfold OpRun;go_simp;exact hR _ _ (Below.refl _ _) rfl)
     case o1=>(refine oQ rfl ?_;intro ρ w1 R hcon hfn hρ hb hp hR;have e59:ρ (.tmp 59)=_:=hp 0 59 rfl rfl;obtain ⟨qa,qc,q0,q1,qz⟩:=(z10.below hb).lo;clear hρ hp;unfold OpRun;go_simp;exact hR _ _ (Below.refl _ _) qz)
     case o2=>(refine oQ rfl ?_;intro ρ w1 R hcon hfn hρ hb hp hR;have e11:ρ (.tmp 11)=.pointer (some ⟨gv11,0,none⟩):=hρ.tmp 11 rfl;obtain ⟨ya9,yc9,yj9,yn9⟩:=ZV.below z11 hb;obtain ⟨j90,j91,-⟩:=yj9;clear hρ hp;unfold OpRun;go_simp;exact hR _ _ (Below.refl _ _) ⟨ya9,yc9,rfl,yn9⟩)
     case o3=>(refine oQ rfl ?_;intro ρ w1 R hcon hfn hρ hb hp hR;have f60:=hp 1 60 rfl rfl;have f61:=hp 2 61 rfl rfl;clear hρ hp;unfold OpRun;go_simp;(refine (AC.out _ _ _ f60 f61).mono ?_;rintro e wn ⟨v9,rfl,hv9,hbn⟩;exact ⟨_,rfl,hR _ _ hbn hv9⟩))
     case o4=>(refine oQ rfl ?_;intro ρ w1 R hcon hfn hρ hb hp hR;have e10:ρ (.tmp 10)=.pointer (some ⟨g10,0,none⟩):=hρ.tmp 10 rfl;clear hρ hp;unfold OpRun;go_simp;exact hR _ _ (Below.refl _ _) rfl)
     case o5=>(refine oQ rfl ?_;intro ρ w1 R hcon hfn hρ hb hp hR;have e63:ρ (.tmp 63)=_:=hp 4 63 rfl rfl;obtain ⟨qa,qc,q0,q1,qz⟩:=(z10.below hb).hi;clear hρ hp;unfold OpRun;go_simp;exact hR _ _ (Below.refl _ _) qz)
     case o6=>(refine oQ rfl ?_;intro ρ w1 R hcon hfn hρ hb hp hR;have e12:ρ (.tmp 12)=.pointer (some ⟨gv12,0,none⟩):=hρ.tmp 12 rfl;obtain ⟨ya9,yc9,yj9,yn9⟩:=ZV.below z12 hb;obtain ⟨j90,j91,-⟩:=yj9;clear hρ hp;unfold OpRun;go_simp;exact hR _ _ (Below.refl _ _) ⟨ya9,yc9,rfl,yn9⟩)
     case o7=>(refine oQ rfl ?_;intro ρ w1 R hcon hfn hρ hb hp hR;have f64:=hp 5 64 rfl rfl;have f65:=hp 6 65 rfl rfl;clear hρ hp;unfold OpRun;go_simp;(refine (AD.out _ _ _ f64 f65).mono ?_;rintro e wn ⟨v9,rfl,hv9,hbn⟩;exact ⟨_,rfl,hR _ _ hbn hv9⟩))
     case o8=>(refine oQ rfl ?_;intro ρ w1 R hcon hfn hρ hb hp hR;have f62:=hp 3 62 rfl rfl;have f66:=hp 7 66 rfl rfl;clear hρ hp;unfold OpRun;go_simp;(obtain ⟨a91,c91,e91,n91⟩:=f62;obtain ⟨a92,c92,e92,n92⟩:=f66;rw [e91,e92];exact hR _ _ (Below.refl _ _) ⟨a91,c91,a92,c92,rfl,n91,n92⟩))
     case after=>
      intro u wn hb hf
      have f67:=hf 8 67 (by omega) rfl
      clear hf
      simp only [putAll,Act.put,List.setIfInBounds_toArray,List.set_cons_zero,List.set_cons_succ,List.drop_succ_cons,List.drop_zero,List.drop_nil]
      obtain ⟨a67,c67,b67,d67,e67,m1,m2⟩:=f67
      rw [e67]
      clear e67
      have yb9:=below_trans yb7 hb
      have zR9:=zR7.below hb
      have hsz9:=yb6.size
      obtain ⟨⟨k0,k1,k2,k3⟩,f0,f1,f2,f3,hs2⟩:=id zR9
      clear hb z10 z11 z12
      go_wp2_with fail
      refine bodyPost_ret (by simp [results,Tryz.results44,go_sem,k0,k1,k2,k3];try rfl) rfl ?_
      exact ⟨_,HG2.out,_,rfl,⟨_,_,_,_,rfl,m1.pu4 hs2 (by decide) _ _ _ _,m2.pu4 hs2 (by decide) _ _ _ _⟩,below_pu4 yb9 (by omega) _ _ _ _⟩
    ·have HG2:=hid (show GoodLn m x0 t ((O1:Int)+P1,(O2:Int)+P2) from by
      have:=HG.out
      rw [HE.out,if_neg hk] at this
      exact this)
     have yb7:=below_trans yb6 y7
     have zR7:=zR.below y7
     replace z10:=z10.below y7
     clear y7 hg1 hg2 gne zR HG HE AC AD
     go_upto_region 9 with fail
     refine wp_region_grow 9 [59,60,61,62,63,64,65,66,67] [Fact.is (.pointer (some ⟨g10,0,none⟩)),Fact.z 3 (O1:Int),Fact.z 3 (P1),Fact.z 3 ((O1:Int)+P1),Fact.is (.pointer (some ⟨g10,2,none⟩)),Fact.z 3 (O2:Int),Fact.z 3 (P2),Fact.z 3 ((O2:Int)+P2),Fact.pi 3 ((O1:Int)+P1,(O2:Int)+P2)] (by kernel_rfl) (by kernel_rfl) ⟨?o0,?o1,?o2,?o3,?o4,?o5,?o6,?o7,?o8,trivial⟩ ?after
     case o0=>(refine oQ rfl ?_;intro ρ w1 R hcon hfn hρ hb hp hR;have e10:ρ (.tmp 10)=.pointer (some ⟨g10,0,none⟩):=hρ.tmp 10 rfl;clear hρ hp;unfold OpRun;go_simp;exact hR _ _ (Below.refl _ _) rfl)
     case o1=>(refine oQ rfl ?_;intro ρ w1 R hcon hfn hρ hb hp hR;have e59:ρ (.tmp 59)=_:=hp 0 59 rfl rfl;obtain ⟨qa,qc,q0,q1,qz⟩:=(z10.below hb).lo;clear hρ hp;unfold OpRun;go_simp;exact hR _ _ (Below.refl _ _) qz)
     case o2=>(refine oQ rfl ?_;intro ρ w1 R hcon hfn hρ hb hp hR;have e11:ρ (.tmp 11)=.pointer (some ⟨gv11,0,none⟩):=hρ.tmp 11 rfl;obtain ⟨ya9,yc9,yj9,yn9⟩:=ZV.below z11 hb;obtain ⟨j90,j91,-⟩:=yj9;clear hρ hp;unfold OpRun;go_simp;exact hR _ _ (Below.refl _ _) ⟨ya9,yc9,rfl,yn9⟩)
     case o3=>(refine oQ rfl ?_;intro ρ w1 R hcon hfn hρ hb hp hR;have f60:=hp 1 60 rfl rfl;have f61:=hp 2 61 rfl rfl;clear hρ hp;unfold OpRun;go_simp;(refine (AA.out _ _ _ f60 f61).mono ?_;rintro e wn ⟨v9,rfl,hv9,hbn⟩;exact ⟨_,rfl,hR _ _ hbn hv9⟩))
     case o4=>(refine oQ rfl ?_;intro ρ w1 R hcon hfn hρ hb hp hR;have e10:ρ (.tmp 10)=.pointer (some ⟨g10,0,none⟩):=hρ.tmp 10 rfl;clear hρ hp;unfold OpRun;go_simp;exact hR _ _ (Below.refl _ _) rfl)
     case o5=>(refine oQ rfl ?_;intro ρ w1 R hcon hfn hρ hb hp hR;have e63:ρ (.tmp 63)=_:=hp 4 63 rfl rfl;obtain ⟨qa,qc,q0,q1,qz⟩:=(z10.below hb).hi;clear hρ hp;unfold OpRun;go_simp;exact hR _ _ (Below.refl _ _) qz)
     case o6=>(refine oQ rfl ?_;intro ρ w1 R hcon hfn hρ hb hp hR;have e12:ρ (.tmp 12)=.pointer (some ⟨gv12,0,none⟩):=hρ.tmp 12 rfl;obtain ⟨ya9,yc9,yj9,yn9⟩:=ZV.below z12 hb;obtain ⟨j90,j91,-⟩:=yj9;clear hρ hp;unfold OpRun;go_simp;exact hR _ _ (Below.refl _ _) ⟨ya9,yc9,rfl,yn9⟩)
     case o7=>(refine oQ rfl ?_;intro ρ w1 R hcon hfn hρ hb hp hR;have f64:=hp 5 64 rfl rfl;have f65:=hp 6 65 rfl rfl;clear hρ hp;unfold OpRun;go_simp;(refine (AB.out _ _ _ f64 f65).mono ?_;rintro e wn ⟨v9,rfl,hv9,hbn⟩;exact ⟨_,rfl,hR _ _ hbn hv9⟩))
     case o8=>(refine oQ rfl ?_;intro ρ w1 R hcon hfn hρ hb hp hR;have f62:=hp 3 62 rfl rfl;have f66:=hp 7 66 rfl rfl;clear hρ hp;unfold OpRun;go_simp;(obtain ⟨a91,c91,e91,n91⟩:=f62;obtain ⟨a92,c92,e92,n92⟩:=f66;rw [e91,e92];exact hR _ _ (Below.refl _ _) ⟨a91,c91,a92,c92,rfl,n91,n92⟩))
     case after=>
      intro u wn hb hf
      have f67:=hf 8 67 (by omega) rfl
      clear hf
      simp only [putAll,Act.put,List.setIfInBounds_toArray,List.set_cons_zero,List.set_cons_succ,List.drop_succ_cons,List.drop_zero,List.drop_nil]
      obtain ⟨a67,c67,b67,d67,e67,m1,m2⟩:=f67
      rw [e67]
      clear e67
      have yb9:=below_trans yb7 hb
      have zR9:=zR7.below hb
      have hsz9:=yb6.size
      obtain ⟨⟨k0,k1,k2,k3⟩,f0,f1,f2,f3,hs2⟩:=id zR9
      clear hb z10 z11 z12
      go_wp2_with fail
      refine bodyPost_ret (by simp [results,Tryz.results44,go_sem,k0,k1,k2,k3];try rfl) rfl ?_
      exact ⟨_,HG2.out,_,rfl,⟨_,_,_,_,rfl,m1.pu4 hs2 (by decide) _ _ _ _,m2.pu4 hs2 (by decide) _ _ _ _⟩,below_pu4 yb9 (by omega) _ _ _ _⟩
end Go.Proofs.YtehhegbkahnhgaaGreatDoor
namespace Go.Ulp
open Go.RowKit
theorem bs_below (D:Dy) (mode:Int) (m0:0≤mode) (m1:mode≤4) (h0:D.1≠0) (hE: -1075≤D.2) (c:Int) (hc:c=sg (decide (D.1<0)) ((D.1.natAbs*2^(D.2+1075).toNat:Nat):Int)):Rnd 2 (2*c-1) mode (bsX D (-1) mode) (bsC D (-1) mode):=by
 obtain ⟨s,hs⟩: ∃s:Nat,s=3000:=⟨_,rfl⟩
 have h:=beside_rnd (decide (D.1<0)) D.1.natAbs D.2 (-1) mode s m0 m1 (fun h=>by omega) (by omega) (by omega) (.inl rfl)
 have hp:0<D.1.natAbs*2^(D.2+1075).toNat:=Nat.mul_pos (by omega) (Nat.two_pow_pos _)
 have hc0:c≠0:=by rw [hc];unfold sg;split<;>omega
 have e:4*sg (decide (D.1<0)) ((D.1.natAbs*2^(D.2+1074+(s:Int)).toNat:Nat):Int)+ -1=c*pw (s+1)-1:=by
  have e1:(D.2+1075).toNat+(s+1)=(D.2+1074+(s:Int)).toNat+2:=by omega
  have e2:D.1.natAbs*2^(D.2+1075).toNat*2^(s+1)=4*(D.1.natAbs*2^(D.2+1074+(s:Int)).toNat):=by
   rw [Nat.mul_assoc,←Nat.pow_add,e1,Nat.pow_add,←Nat.mul_assoc,Nat.mul_comm]
  have e3:c*pw (s+1)=sg (decide (D.1<0)) ((D.1.natAbs*2^(D.2+1075).toNat*2^(s+1):Nat):Int):=by
   rw [hc,pw_nat,Int.natCast_mul _ (2^(s+1))]
   unfold sg
   split
   ·rw [Int.neg_mul]
   ·rfl
  rw [e3,e2]
  unfold sg
  split<;>omega
 rw [e] at h
 exact (blw_of s c _ hc0 rfl).rnd (blw_two c hc0) h
theorem lp_near (x mode X:Int) (h0:0≤x) (h1:x<18446744073709551616) (hgt:x<13830554455654793216) (hc4:classOf x<4) (hc1:classOf x≠1) (htop: -70≤topD (fv x)) (ht2:topD (fv x)< -60) (m0:0≤mode) (m1:mode≤4)
 (h:LnR (addD (fv x) (nrm 1 0)).1.natAbs (addD (fv x) (nrm 1 0)).2 mode X):X=bsX (fv x) (-1) mode∧true=bsC (fv x) (-1) mode:=by
 obtain ⟨p1,p2,p3,p4⟩:=lp_ok x h0 h1 hgt hc4 hc1 htop
 obtain ⟨-,b1,b2,b3⟩:=fv_bd x h0 h1
 obtain ⟨z,hz⟩: ∃z,z=122:=⟨_,rfl⟩
 obtain ⟨K,k1,k2,k3,k4,k5⟩:=lp_parts x h0 h1 hgt hc4 hc1 htop z hz
 have hI:IsN (fv x):=nrm_isN _ _
 have e0:=nrm_of_isN (fv x) hI
 have hnz:(fv x).1≠0:=fun h=>k2 (by
  rw [k1] at h
  exact (nrm_zero_iff _ _).1 h)
 obtain ⟨pl,hpl⟩: ∃pl,pl=1075:=⟨_,rfl⟩
 obtain ⟨E,hE⟩: ∃E,E=((fv x).2+1075).toNat:=⟨_,rfl⟩
 obtain ⟨c,hc⟩: ∃c,c=sg (decide ((fv x).1<0)) (((fv x).1.natAbs*2^E:Nat):Int):=⟨_,rfl⟩
 have r:=bs_below (fv x) mode m0 m1 hnz (by omega) c (by rw [←hE];exact hc)
 have hM:(fv x).1.natAbs<9007199254740992:=b1
 have hcx:c=(fv x).1*pw E:=by
  rw [hc,Int.natCast_mul,←pw_nat]
  unfold sg
  by_cases hn:(fv x).1<0
  ·rw [decide_eq_true hn,if_pos rfl,←Int.neg_mul];congr 1;omega
  ·rw [decide_eq_false hn,if_neg (by decide)];congr 1;omega
 have s1:=nrm_add (fv x).1 (fv x).2 1 0 (-(pl:Int)) (.inl (by omega)) (.inl (by omega))
 rw [e0] at s1
 have one:sc 1 0 (-(pl:Int))=pw pl:=by
  unfold sc
  rw [Int.one_mul,show ((0:Int)- -(pl:Int)).toNat=pl by omega]
 have scc:sc (fv x).1 (fv x).2 (-(pl:Int))=c:=by
  unfold sc
  rw [hcx,show ((fv x).2- -(pl:Int)).toNat=E by omega]
 rw [one,scc] at s1
 have hpos:0<c+pw pl:=by
  have:=sgn_nrm (c+pw pl) (-(pl:Int))
  rw [s1] at this
  unfold sgn at this
  exact (cmpI_gt _ _).1 (by rw [←this];exact (cmpI_gt _ _).2 p1)
 obtain ⟨N,hN⟩:=Int.eq_ofNat_of_zero_le (Int.le_of_lt hpos)
 have hv:(2:Rat)^pl*dyQ (addD (fv x) (nrm 1 0)).1.natAbs (addD (fv x) (nrm 1 0)).2=2^pl+(c:Rat):=by
  have hD1:nrm ((N:Nat):Int) (-(pl:Int))=nrm (((addD (fv x) (nrm 1 0)).1.natAbs:Nat):Int) (addD (fv x) (nrm 1 0)).2:=by
   have e1:(((addD (fv x) (nrm 1 0)).1.natAbs:Nat):Int)=(addD (fv x) (nrm 1 0)).1:=by omega
   rw [e1,nrm_of_isN _ (by rw [k5];exact nrm_isN _ _),←s1,hN]
  have:=val_of N pl _ _ hD1
  rw [two_cast] at this
  rw [this]
  have e2:((c+pw pl:Int):Rat)=((N:Int):Rat):=by rw [hN]
  rw [Rat.intCast_add] at e2
  have e3:((pw pl:Int):Rat)=2^pl:=by rw [pw_nat,←two_cast];rfl
  rw [e3] at e2
  have e4:((N:Int):Rat)=(N:Rat):=rfl
  rw [e4] at e2
  rw [←e2]
  grind
 have h60:(fv x).1.natAbs*2^E*1152921504606846976≤2^pl:=by
  have hl:=lt_bl (fv x).1.natAbs
  unfold topD at ht2
  have e60:(1152921504606846976:Nat)=2^60:=by decide
  rw [e60,Nat.mul_assoc,←Nat.pow_add]
  refine Nat.le_trans (Nat.mul_le_mul_right _ (Nat.le_of_lt hl)) ?_
  rw [←Nat.pow_add]
  exact Nat.pow_le_pow_right (by omega) (by omega)
 have hX:=lp_small h (by omega) p2 p3 p4 (decide ((fv x).1<0)) (fv x).1.natAbs E pl hM (by omega) hpl c hc h60 hv r
 exact ⟨hX,(rnd_odd r (by omega)).symm⟩
theorem goodLn_end (m:Nat) (e:Int) (h0:0<m) (hm:m<2^1280) (he: -3000≤e∧e≤3000) (h1:dyQ m e≠1) (t:Nat) (x:Int×Int) (h:GoodLn m e t x) (ht:2900000000≤t):st x.1 (10^t)=st x.2 (10^t)∧x.1≠0∧x.2≠0:=by
 have hP:0<10^t:=Nat.pow_pos (by omega)
 have k:2^(100+(GG+4300))≤10^t:=by
  have k1:100+(GG+4300)≤3*t:=by unfold GG;omega
  refine Nat.le_trans (Nat.pow_le_pow_right (by omega) k1) ?_
  rw [Nat.pow_mul]
  exact Nat.pow_le_pow_left (show 2^3≤10 by decide) t
 obtain ⟨q,q1,q2⟩:=ln_ends h.1 hP h0 hm he h1 (GG+4300) rfl k
 have nz: ∀y:Int,st y (10^t)=2*q+1→y≠0:=by
  intro y hy h9
  subst h9
  have hs:=st_sign 0 (10^t) hP
  rw [hy,show cmpI 0 0=0 by decide] at hs
  have:=(cmpI_eq_zero _ _).1 hs
  omega
 exact ⟨by rw [q1,q2],nz _ q1,nz _ q2⟩
theorem st_nz {x:Int} {D:Nat} (hD:0<D) (h:x≠0):st x D≠0:=fun h9=>h (by
 have hs:=st_sign x D hD
 rw [h9,show cmpI 0 0=0 by decide] at hs
 exact (cmpI_eq_zero _ _).1 hs.symm)
theorem goodLn_r (m:Nat) (e mode:Int) (m0:0≤mode) (m1:mode≤4) (t:Nat) (x:Int×Int) (h:GoodLn m e t x) (h1:x.1≠0) (h2:x.2≠0) (h3:vX (st x.1 (10^t)) mode=vX (st x.2 (10^t)) mode):LnR m e mode (vX (st x.1 (10^t)) mode):=by
 have hP:0<10^t:=Nat.pow_pos (by omega)
 obtain ⟨c1,r1⟩:=vX_rnd (st x.1 (10^t)) mode m0 m1
 obtain ⟨c2,r2⟩:=vX_rnd (st x.2 (10^t)) mode m0 m1
 rw [←h3] at r2
 exact ⟨10^t,100,x,c1,c2,hP,h.1,r1,r2,st_nz hP h1,st_nz hP h2⟩
end Go.Ulp
