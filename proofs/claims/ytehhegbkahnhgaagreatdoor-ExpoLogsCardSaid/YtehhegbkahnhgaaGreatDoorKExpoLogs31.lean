/- ExpoLogs: what the proof leans on, part 31 (Li4 Li5). -/
import Derived.Test.YtehhegbkahnhgaaGreatDoorKExpoLogs30
set_option linter.unusedVariables false
set_option linter.unusedSimpArgs false
namespace Go.Ulp
open Go.RowKit
def QVr (tq ti:TypeId) (w:World) (g:Nat) (D:Dy) (A T:Nat):Prop:= ∃n s k,QL tq w g n s k∧QD ti w D A T (.agg #[.bool n,s,.int .i64 k])
theorem QVr.below {tq ti:TypeId} {w w':World} {g:Nat} {D:Dy} {A T:Nat} (h:QVr tq ti w g D A T) (hb:Below w.heap.size w w'):QVr tq ti w' g D A T:=by
 obtain ⟨n,s,k,h1,h2⟩:=h;exact ⟨n,s,k,h1.below hb,h2.below hb⟩
theorem QVr.put {tq ti:TypeId} {w:World} {g:Nat} {n:Bool} {v:Value} {k:Int} {X:Int} {a:Option Addr} {c m:Nat} {D:Dy} {A T:Nat} (z:QL tq w g n v k) (hne:tq≠ti) (h:Nz ti w a c (zl X)) (hD:nrm X (-(m:Int))=D) (hX:X.natAbs<2^A) (hn:m≤T):
 QVr tq ti (((w.setCell ⟨g,0,none⟩ (.bool (zneg X))).setCell ⟨g,1,none⟩ (.slice a (zl X).length c)).setCell ⟨g,2,none⟩ (.int .i64 (m:Int))) g D A T:=
 ⟨_,_,_,z.put _ _ _,⟨X,m,a,c,rfl,h.set3Q z hne _ _ _,hD,hX,hn⟩⟩
theorem QVr.ql {tq ti:TypeId} {w:World} {g:Nat} {D:Dy} {A T:Nat} (h:QVr tq ti w g D A T): ∃n s k,QL tq w g n s k:=by
 obtain ⟨n,s,k,h1,-⟩:=h;exact ⟨n,s,k,h1⟩
def RetLB (w:World) (Said:Int→Bool→Prop) (en:Ending) (w':World):Prop:= ∃X ch,Said X ch∧RetX w X ch en w'
theorem nrm_pos9 {D:Dy} (hI:IsN D) (h:0<D.1):nrm ((D.1.natAbs:Nat):Int) D.2=D:=by
 rw [show ((D.1.natAbs:Nat):Int)=D.1 by omega];exact nrm_of_isN D hI
end Go.Ulp
namespace Go.Proofs.YtehhegbkahnhgaaGreatDoor
open Go.RowKit Go.Ulp
set_option maxHeartbeats 4000000
set_option maxRecDepth 100000
theorem qint9_any (w:World):Calls Tryz.prog 41 #[.int .i64 1] w (RetQD 3 w (nrm 1 0) 1 0):=by
 have ON:=hid (fun w=>zND 1 (by omega) (by omega) w)
 have yb:=below_alloc w (.cells #[.bool false,.slice none 0 0,.int .i64 0] 49)
 have zR:QL 49 (w.alloc (.cells #[.bool false,.slice none 0 0,.int .i64 0] 49)) w.heap.size false (.slice none 0 0) 0:=QL.made rfl
 go_enter Tryz.func41,Tryz.ntmps41
 go_wp2_with (go_at_call 38;(with_reducible refine (ON.out _).mono ?_);rintro en w1 ⟨v1,rfl,⟨a1,c1,rfl,n1⟩,hb1⟩;have zR2:=zR.below hb1;obtain ⟨⟨k0,k1,f0,f1,hs2⟩,k2,f2⟩:=id zR2)
 refine bodyPost_ret (by simp [results,Tryz.results41,go_sem,k0,k1,k2];try rfl) rfl ?_
 exact ⟨_,rfl,⟨1,0,a1,c1,rfl,n1.set3Q zR2 (by decide) _ _ _,rfl,by decide,Nat.le_refl _⟩,Go.Ulp.Below.put3 (below_trans yb hb1) (Nat.le_refl _) _ _ _⟩
theorem ent_lb9 (p:Int) (cp:Value) (w:World):Sem.run Tryz.prog (callFunc 43 #[.int .i64 p,cp]) w=.ok (.enter 43 #[.int .i64 p,cp]) w:=by
 simp [callFunc,go_sem,Tryz.func43,Tryz.f43]
theorem lbC9_any (D:Dy) (t g:Nat) (w:World) (hz:QVr 49 3 w g D 400000 200000) (hI:IsN D) (hm:0<D.1) (hm40:D.1.natAbs<2^1280) (he: -3000≤D.2∧D.2≤3000) (t0:20≤t) (t1:t≤3000000000):
 Calls Tryz.prog 43 #[.int .i64 (t:Int),.pointer (some ⟨g,0,none⟩)] w (RetGI 3 w (GoodLn D.1.natAbs D.2) t):=by
 have EB:=hid (fun v w h=>lnBounds_any D.1.natAbs D.2 t v w h (by omega) hm40 he t0 t1)
 rw [nrm_pos9 hI hm] at EB
 have yb0:=below_alloc w (.cells #[.bool false,.slice none 0 0,.bool false,.slice none 0 0] 63)
 have zR:BC 63 (w.alloc (.cells #[.bool false,.slice none 0 0,.bool false,.slice none 0 0] 63)) w.heap.size false (.slice none 0 0) false (.slice none 0 0):=BC.made rfl
 obtain ⟨n,s,k,q1,q2⟩:=hz.below yb0
 obtain ⟨⟨j0,j1,-⟩,j2,-⟩:=id q1
 have HQ:=hid q2
 clear hz q1 q2 hI hm hm40 he
 go_enter Tryz.func43,Tryz.ntmps43
 go_wp2_with (go_at_call 44;(with_reducible refine (EB.out _ _ HQ.out).mono ?_);rintro en w2 ⟨y,hgy,v2,rfl,⟨a2,c2,b2,d2,rfl,m1,m2⟩,hb2⟩;have zR2:=zR.below hb2;obtain ⟨⟨k0,k1,k2,k3⟩,f0,f1,f2,f3,s8⟩:=id zR2;have HG:=hid hgy;clear hgy)
 refine bodyPost_ret (by simp [results,Tryz.results43,go_sem,k0,k1,k2,k3];try rfl) rfl ?_
 exact ⟨y,HG.out,_,rfl,⟨a2,c2,b2,d2,rfl,m1.pu4 s8 (by decide) _ _ _ _,m2.pu4 s8 (by decide) _ _ _ _⟩,below_pu4 (below_trans yb0 hb2) (Nat.le_refl _) _ _ _ _⟩
theorem lbBy_any (D:Dy) (mode:Int) (g:Nat) (w:World) (hz:QVr 49 3 w g D 400000 200000) (hI:IsN D) (hm:0<D.1) (hm40:D.1.natAbs<2^1280) (he: -3000≤D.2∧D.2≤3000) (hd:dyQ D.1.natAbs D.2≠1) (m0:0≤mode) (m1:mode≤4):
 Calls Tryz.prog 42 #[.int .i64 80,.int .i64 mode,.func (.func 43) #[] #[.pointer (some ⟨g,0,none⟩)]] w (fun en w'=> ∃X,LnR D.1.natAbs D.2 mode X∧en=.returned (.tuple #[.int .u64 X,.bool true])∧Below w.heap.size w w'):=
 (byBounds_any mode m0 m1 80 43 (.pointer (some ⟨g,0,none⟩)) (GoodLn D.1.natAbs D.2) w (by omega) (by omega) (fun p w=>ent_lb9 p _ w) (fun t x h=>h.2) (fun t x h ht=>goodLn_end _ _ (by omega) hm40 he hd t x h ht) (fun t w' t0 t1 hb=>lbC9_any D t g w' (hz.below hb) hI hm hm40 he t0 t1)).mono (fun en w' h=>by
  obtain ⟨t,x,h1,h2,h3,h4,h5,h6⟩:=h
  exact ⟨_,goodLn_r _ _ mode m0 m1 t x h1 h2 h3 h4,h5,h6⟩)
theorem logBits_any (x:Int) (h0:0≤x) (h1:x<18446744073709551616) (mode:Int) (m0:0≤mode) (m1:mode≤4) (w:World):
 Calls Tryz.prog 9 #[.int .u64 x,.bool false,.int .i64 mode] w (RetLB w (LgSaid x mode)):=by
 have IN:=hid (fun w=>rIsNan_any x h0 h1 w)
 have II:=hid (fun w=>rIsInf_any x h0 h1 w)
 have IZ:=hid (fun w=>rIsZero_any x h0 h1 w)
 have IM:=hid (fun w=>rMinus_any x h0 h1 w)
 have QN:=hid (fun w=>rQuiet_any w)
 have IB:=hid (fun w=>rInfBits_any w)
 have SG:=hid (show ∀w,Calls Tryz.prog 32 #[.int .u64 9218868437227405312,.bool true] w fun e w'=>e=.returned (.int .u64 18442240474082181120)∧w=w' from fun w=>rSigned_any 9218868437227405312 (by omega) (by omega) true w)
 have yb:=below_alloc w (.cells #[.bool false,.slice none 0 0,.int .i64 0] 49)
 have zR:QL 49 (w.alloc (.cells #[.bool false,.slice none 0 0,.int .i64 0] 49)) w.heap.size false (.slice none 0 0) 0:=QL.made rfl
 have nan5:isNan x=(classOf x==5):=rfl
 have inf4:isInf x=(classOf x==4):=rfl
 have zer1:isZer x=(classOf x==1):=rfl
 rw [nan5] at IN
 rw [inf4] at II
 rw [zer1] at IZ
 clear nan5 inf4 zer1
 by_cases c5:classOf x=5
 ·have HS:=hid (show ∀X ch,LgSaid x mode X ch=(X=9221120237041090560∧ch=false) from fun X ch=>by unfold LgSaid;rw [if_neg (by omega),if_pos (.inl c5)])
  rw [c5] at IN II IZ
  clear c5
  go_enter Tryz.func9,Tryz.ntmps9
  go_wp2_with (first
   |(go_at_call 27;(with_reducible refine (IN.out _).mono ?_);rintro en w1 ⟨rfl,rfl⟩)
   |(go_at_call 29;(with_reducible refine (II.out _).mono ?_);rintro en w1 ⟨rfl,rfl⟩)
   |(go_at_call 31;(with_reducible refine (IZ.out _).mono ?_);rintro en w1 ⟨rfl,rfl⟩)
   |(go_at_call 30;(with_reducible refine (IM.out _).mono ?_);rintro en w1 ⟨rfl,rfl⟩)
   |(go_at_call 28;(with_reducible refine (QN.out _).mono ?_);rintro en w1 ⟨rfl,rfl⟩)
   |(go_at_call 33;(with_reducible refine (IB.out _).mono ?_);rintro en w1 ⟨rfl,rfl⟩)
   |(go_at_call 32;(with_reducible refine (SG.out _).mono ?_);rintro en w1 ⟨rfl,rfl⟩))
  go_ret2
  exact ⟨_,_,by rw [HS.out];exact ⟨rfl,rfl⟩,rfl,yb⟩
 have z5:(classOf x==5)=false:=beq_eq_false_iff_ne.2 c5
 rw [z5] at IN
 by_cases c4:classOf x=4
 ·rw [c4] at II IZ
  have hab:=(class_inf x h0 h1).1 c4
  unfold absOf at hab
  cases hn:negB x
  ·have hx2:x<9223372036854775808:=by
    unfold negB at hn
    have:=of_decide_eq_false hn
    omega
   have HS:=hid (show ∀X ch,LgSaid x mode X ch=(X=x∧ch=false) from fun X ch=>by unfold LgSaid;rw [if_neg (by omega),if_neg (by rw [hn];simp [c5]),if_pos (by omega)])
   rw [hn] at IM
   clear c5 z5 c4 hab hn hx2
   go_enter Tryz.func9,Tryz.ntmps9
   go_wp2_with (first
    |(go_at_call 27;(with_reducible refine (IN.out _).mono ?_);rintro en w1 ⟨rfl,rfl⟩)
    |(go_at_call 29;(with_reducible refine (II.out _).mono ?_);rintro en w1 ⟨rfl,rfl⟩)
    |(go_at_call 31;(with_reducible refine (IZ.out _).mono ?_);rintro en w1 ⟨rfl,rfl⟩)
    |(go_at_call 30;(with_reducible refine (IM.out _).mono ?_);rintro en w1 ⟨rfl,rfl⟩)
    |(go_at_call 28;(with_reducible refine (QN.out _).mono ?_);rintro en w1 ⟨rfl,rfl⟩)
    |(go_at_call 33;(with_reducible refine (IB.out _).mono ?_);rintro en w1 ⟨rfl,rfl⟩)
    |(go_at_call 32;(with_reducible refine (SG.out _).mono ?_);rintro en w1 ⟨rfl,rfl⟩))
   go_ret2
   exact ⟨_,_,by rw [HS.out];exact ⟨rfl,rfl⟩,rfl,yb⟩
  ·have HS:=hid (show ∀X ch,LgSaid x mode X ch=(X=9221120237041090560∧ch=false) from fun X ch=>by unfold LgSaid;rw [if_neg (by omega),if_pos (.inr hn)])
   rw [hn] at IM
   clear c5 z5 c4 hab hn
   go_enter Tryz.func9,Tryz.ntmps9
   go_wp2_with (first
    |(go_at_call 27;(with_reducible refine (IN.out _).mono ?_);rintro en w1 ⟨rfl,rfl⟩)
    |(go_at_call 29;(with_reducible refine (II.out _).mono ?_);rintro en w1 ⟨rfl,rfl⟩)
    |(go_at_call 31;(with_reducible refine (IZ.out _).mono ?_);rintro en w1 ⟨rfl,rfl⟩)
    |(go_at_call 30;(with_reducible refine (IM.out _).mono ?_);rintro en w1 ⟨rfl,rfl⟩)
    |(go_at_call 28;(with_reducible refine (QN.out _).mono ?_);rintro en w1 ⟨rfl,rfl⟩)
    |(go_at_call 33;(with_reducible refine (IB.out _).mono ?_);rintro en w1 ⟨rfl,rfl⟩)
    |(go_at_call 32;(with_reducible refine (SG.out _).mono ?_);rintro en w1 ⟨rfl,rfl⟩))
   go_ret2
   exact ⟨_,_,by rw [HS.out];exact ⟨rfl,rfl⟩,rfl,yb⟩
 have z4:(classOf x==4)=false:=beq_eq_false_iff_ne.2 c4
 rw [z4] at II
 by_cases c1:classOf x=1
 ·have HS:=hid (show ∀X ch,LgSaid x mode X ch=(X=18442240474082181120∧ch=false) from fun X ch=>by unfold LgSaid;rw [if_pos c1])
  rw [c1] at IZ
  clear c5 z5 c4 z4 c1
  go_enter Tryz.func9,Tryz.ntmps9
  go_wp2_with (first
   |(go_at_call 27;(with_reducible refine (IN.out _).mono ?_);rintro en w1 ⟨rfl,rfl⟩)
   |(go_at_call 29;(with_reducible refine (II.out _).mono ?_);rintro en w1 ⟨rfl,rfl⟩)
   |(go_at_call 31;(with_reducible refine (IZ.out _).mono ?_);rintro en w1 ⟨rfl,rfl⟩)
   |(go_at_call 30;(with_reducible refine (IM.out _).mono ?_);rintro en w1 ⟨rfl,rfl⟩)
   |(go_at_call 28;(with_reducible refine (QN.out _).mono ?_);rintro en w1 ⟨rfl,rfl⟩)
   |(go_at_call 33;(with_reducible refine (IB.out _).mono ?_);rintro en w1 ⟨rfl,rfl⟩)
   |(go_at_call 32;(with_reducible refine (SG.out _).mono ?_);rintro en w1 ⟨rfl,rfl⟩))
  go_ret2
  exact ⟨_,_,by rw [HS.out];exact ⟨rfl,rfl⟩,rfl,yb⟩
 have z1:(classOf x==1)=false:=beq_eq_false_iff_ne.2 c1
 rw [z1] at IZ
 have QV:=hid (fun w=>qval_any x h0 h1 w)
 have QC:=hid (fun v w h=>qcmp_any v _ (fv x) (0,0) 1200 1100 1 0 w h (QD.zero (by omega)) (by omega) (by omega) (by omega) (by omega))
 have QC1:=hid (fun v u w h k=>qcmp_any v u (fv x) (nrm 1 0) 1200 1100 1 0 w h k (by omega) (by omega) (by omega) (by omega))
 have QI:=hid (fun w=>qint9_any w)
 have hmf: ∀fn first cap w,(Instr.makeFunc fn first cap).run Tryz.prog w=.ok (.func fn first cap) w:=fun _ _ _ _=>rfl
 have hrk:=fv_sgn9 x h0 h1
 have cz0:cmpD (fv x) (0,0)=cmpI (rankOf x) 0:=by rw [cmpD_zero];exact hrk
 rw [cz0] at QC
 clear z5 z4 z1
 cases hn:negB x
 ·have hx2:x<9223372036854775808:=by
   unfold negB at hn
   have:=of_decide_eq_false hn
   omega
  have hx0:0<x:=by
   rcases Int.lt_or_eq_of_le h0 with h|h
   ·exact h
   ·exfalso;apply c1;rw [←h];decide
  have hr:cmpI (rankOf x) 0=1:=by
   have:rankOf x=x:=by unfold rankOf;rw [if_neg (by omega)];omega
   rw [this];exact cmpI_g hx0
  rw [hr] at QC
  have ci:x≠9218868437227405312:=fun h=>c4 ((class_inf x h0 h1).2 (by rw [h];decide))
  have fp:=fv_pos9 x hx0 hx2
  obtain ⟨-,b1,b2,b3⟩:=fv_bd x h0 h1
  have hI:IsN (fv x):=nrm_isN _ _
  by_cases co:x=4607182418800017408
  ·have HS:=hid (show ∀X ch,LgSaid x mode X ch=(X=0∧ch=false) from fun X ch=>by unfold LgSaid;rw [if_neg c1,if_neg (by rw [hn];simp [c5]),if_neg ci,if_pos co])
   have e1:cmpD (fv x) (nrm 1 0)=0:=by rw [co,fv_one9];exact cmpD_self _
   rw [e1] at QC1
   clear c5 c4 c1 hn hx2 hx0 hr ci fp b1 b2 b3 hI co e1 hrk cz0
   generalize fv x=D at *
   generalize classOf x=kk at *
   go_enter Tryz.func9,Tryz.ntmps9
   go_upto_region 13 with (first
    |(go_at_call 27;(with_reducible refine (IN.out _).mono ?_);rintro en w1 ⟨rfl,rfl⟩)
    |(go_at_call 29;(with_reducible refine (II.out _).mono ?_);rintro en w1 ⟨rfl,rfl⟩)
    |(go_at_call 31;(with_reducible refine (IZ.out _).mono ?_);rintro en w1 ⟨rfl,rfl⟩)
    |(go_at_call 34;(with_reducible refine (QV.out _).mono ?_);rintro en w2 ⟨v2,rfl,⟨X2,nn2,a2,c2,rfl,n2,hD2,hX2,hn2⟩,hb2⟩;have zR2:=zR.below hb2;have HD2:=hid hD2;have HX2:=hid hX2;clear hD2 hX2;obtain ⟨⟨k0,k1,f0,f1,hs2⟩,k2,f2⟩:=id zR2))
   refine wp_worldZ (fun WW=>Below w.heap.size w WW∧QVr 49 3 WW w.heap.size D 1200 1100) ⟨Go.Ulp.Below.put3 (below_trans yb hb2) (by omega) _ _ _,QVr.put zR2 (by decide) n2 HD2.out HX2.out hn2⟩ ?_
   clear zR zR2 hb2 n2 HD2 HX2 hn2 k0 k1 f0 f1 hs2 k2 f2 yb
   intro W2 ⟨yb2,z8⟩
   obtain ⟨n8,s8,k8,q8,d8⟩:=id z8
   obtain ⟨⟨j0,j1,-⟩,j2,-⟩:=id q8
   go_upto_region 18 with (go_at_call 35;(with_reducible refine (QC.out _ _ d8).mono ?_);rintro en w3 ⟨rfl,hb3⟩)
   have yb3:=below_trans yb2 hb3
   have z83:=z8.below hb3
   clear yb2 z8 q8 d8 j0 j1 j2 hb3
   go_upto_region 22 with fail
   refine wp_region_grow 5 [70,71,72,73,69] [Fact.q 3 D 1200 1100,Fact.q 3 (nrm 1 0) 1 0,Fact.is (.int .i64 0),Fact.is (.bool true),Fact.is (.bool true)] (by kernel_rfl) (by kernel_rfl) ⟨?o0,?o1,?o2,?o3,?o4,trivial⟩ ?after
   case o0=>(refine oQ rfl ?_;intro ρ w1 R hcon hfn hρ hb hp hR;have e8:ρ (.tmp 8)=.pointer (some ⟨w.heap.size,0,none⟩):=hρ.tmp 8 rfl;obtain ⟨n8',s8',k8',⟨⟨j0,j1,-⟩,j2,-⟩,d8'⟩:=z83.below hb;clear hρ hp;unfold OpRun;go_simp;exact hR _ _ (Below.refl _ _) d8')
   case o1=>(refine oQ rfl ?_;intro ρ w1 R hcon hfn hρ hb hp hR;clear hρ hp;unfold OpRun;go_simp;(refine (QI.out _).mono ?_;rintro e wn ⟨v9,rfl,hv9,hbn⟩;exact ⟨_,rfl,hR _ _ hbn hv9⟩))
   case o2=>(refine oQ rfl ?_;intro ρ w1 R hcon hfn hρ hb hp hR;have f70:=hp 0 70 rfl rfl;have f71:=hp 1 71 rfl rfl;clear hρ hp;unfold OpRun;go_simp;(refine (QC1.out _ _ _ f70 f71).mono ?_;rintro e wn ⟨rfl,hbn⟩;exact ⟨_,rfl,hR _ _ hbn rfl⟩))
   case o3=>(refine oQ rfl ?_;intro ρ w1 R hcon hfn hρ hb hp hR;have e72:ρ (.tmp 72)=_:=hp 2 72 rfl rfl;clear hρ hp;unfold OpRun;go_simp;exact hR _ _ (Below.refl _ _) rfl)
   case o4=>(refine oQ rfl ?_;intro ρ w1 R hcon hfn hρ hb hp hR;have e73:ρ (.tmp 73)=_:=hp 3 73 rfl rfl;clear hρ hp;unfold OpRun;go_simp;exact hR _ _ (Below.refl _ _) rfl)
   case after=>
    intro u wn hb hf
    have e69:u 69=_:=hf 4 69 (by omega) rfl
    clear hf
    simp only [putAll,Act.put,List.setIfInBounds_toArray,List.set_cons_zero,List.set_cons_succ,List.drop_succ_cons,List.drop_zero,List.drop_nil]
    rw [e69]
    go_wp2_with fail
    go_ret2
    exact ⟨_,_,by rw [HS.out];exact ⟨rfl,rfl⟩,rfl,below_trans yb3 hb⟩
  ·have HS:=hid (show ∀X ch,LgSaid x mode X ch=(ch=true∧LnR (fv x).1.natAbs (fv x).2 mode X) from fun X ch=>by unfold LgSaid;rw [if_neg c1,if_neg (by rw [hn];simp [c5]),if_neg ci,if_neg co])
   obtain ⟨k1,hk1⟩: ∃k,k=cmpD (fv x) (nrm 1 0):=⟨_,rfl⟩
   have hz1:(k1==0)=false:=beq_eq_false_iff_ne.2 (fun h=>co (fv_is1 x h0 hx2 (by rw [←hk1];exact h)))
   rw [←hk1] at QC1
   have hd:=dq_ne1 hI fp (fun h=>co (fv_is1 x h0 hx2 h))
   have BB:=hid (fun g w h=>lbBy_any (fv x) mode g w h hI fp (lt_1280 b1) ⟨by omega,by omega⟩ hd m0 m1)
   clear c5 c4 c1 hn hx2 hx0 hr ci fp b1 b2 b3 hI co hd hk1 hrk cz0
   generalize fv x=D at *
   generalize classOf x=kk at *
   go_enter Tryz.func9,Tryz.ntmps9
   go_upto_region 13 with (first
    |(go_at_call 27;(with_reducible refine (IN.out _).mono ?_);rintro en w1 ⟨rfl,rfl⟩)
    |(go_at_call 29;(with_reducible refine (II.out _).mono ?_);rintro en w1 ⟨rfl,rfl⟩)
    |(go_at_call 31;(with_reducible refine (IZ.out _).mono ?_);rintro en w1 ⟨rfl,rfl⟩)
    |(go_at_call 34;(with_reducible refine (QV.out _).mono ?_);rintro en w2 ⟨v2,rfl,⟨X2,nn2,a2,c2,rfl,n2,hD2,hX2,hn2⟩,hb2⟩;have zR2:=zR.below hb2;have HD2:=hid hD2;have HX2:=hid hX2;clear hD2 hX2;obtain ⟨⟨k0,k1,f0,f1,hs2⟩,k2,f2⟩:=id zR2))
   refine wp_worldZ (fun WW=>Below w.heap.size w WW∧QVr 49 3 WW w.heap.size D 1200 1100) ⟨Go.Ulp.Below.put3 (below_trans yb hb2) (by omega) _ _ _,QVr.put zR2 (by decide) n2 HD2.out HX2.out hn2⟩ ?_
   clear zR zR2 hb2 n2 HD2 HX2 hn2 k0 k1 f0 f1 hs2 k2 f2 yb
   intro W2 ⟨yb2,z8⟩
   obtain ⟨n8,s8,k8,q8,d8⟩:=id z8
   obtain ⟨⟨j0,j1,-⟩,j2,-⟩:=id q8
   go_upto_region 18 with (go_at_call 35;(with_reducible refine (QC.out _ _ d8).mono ?_);rintro en w3 ⟨rfl,hb3⟩)
   have yb3:=below_trans yb2 hb3
   have z83:=z8.below hb3
   clear yb2 z8 q8 d8 j0 j1 j2 hb3
   go_upto_region 22 with fail
   refine wp_region_grow 5 [70,71,72,73,69] [Fact.q 3 D 1200 1100,Fact.q 3 (nrm 1 0) 1 0,Fact.is (.int .i64 k1),Fact.is (.bool false),Fact.is (.bool false)] (by kernel_rfl) (by kernel_rfl) ⟨?o0,?o1,?o2,?o3,?o4,trivial⟩ ?after
   case o0=>(refine oQ rfl ?_;intro ρ w1 R hcon hfn hρ hb hp hR;have e8:ρ (.tmp 8)=.pointer (some ⟨w.heap.size,0,none⟩):=hρ.tmp 8 rfl;obtain ⟨n8',s8',k8',⟨⟨j0,j1,-⟩,j2,-⟩,d8'⟩:=z83.below hb;clear hρ hp;unfold OpRun;go_simp;exact hR _ _ (Below.refl _ _) d8')
   case o1=>(refine oQ rfl ?_;intro ρ w1 R hcon hfn hρ hb hp hR;clear hρ hp;unfold OpRun;go_simp;(refine (QI.out _).mono ?_;rintro e wn ⟨v9,rfl,hv9,hbn⟩;exact ⟨_,rfl,hR _ _ hbn hv9⟩))
   case o2=>(refine oQ rfl ?_;intro ρ w1 R hcon hfn hρ hb hp hR;have f70:=hp 0 70 rfl rfl;have f71:=hp 1 71 rfl rfl;clear hρ hp;unfold OpRun;go_simp;(refine (QC1.out _ _ _ f70 f71).mono ?_;rintro e wn ⟨rfl,hbn⟩;exact ⟨_,rfl,hR _ _ hbn rfl⟩))
   case o3=>(refine oQ rfl ?_;intro ρ w1 R hcon hfn hρ hb hp hR;have e72:ρ (.tmp 72)=_:=hp 2 72 rfl rfl;clear hρ hp;unfold OpRun;go_simp;exact hR _ _ (Below.refl _ _) rfl)
   case o4=>(refine oQ rfl ?_;intro ρ w1 R hcon hfn hρ hb hp hR;have e73:ρ (.tmp 73)=_:=hp 3 73 rfl rfl;clear hρ hp;unfold OpRun;go_simp;exact hR _ _ (Below.refl _ _) rfl)
   case after=>
    intro u wn hb hf
    have e69:u 69=_:=hf 4 69 (by omega) rfl
    clear hf
    simp only [putAll,Act.put,List.setIfInBounds_toArray,List.set_cons_zero,List.set_cons_succ,List.drop_succ_cons,List.drop_zero,List.drop_nil]
    rw [e69]
    have yb4:=below_trans yb3 hb
    have HZ:=hid (show QVr 49 3 wn w.heap.size D 400000 200000 from by
     obtain ⟨n,s,k,h1,h2⟩:=z83.below hb
     exact ⟨n,s,k,h1,h2.weak (by omega) (by omega)⟩)
    go_wp2_with (go_at_call 42;(with_reducible refine (BB.out _ _ HZ.out).mono ?_);rintro en w5 ⟨X,hX,rfl,hb5⟩;have HX:=hid hX;clear hX)
    go_ret2
    exact ⟨X,true,by rw [HS.out];exact ⟨rfl,HX.out⟩,rfl,below_trans yb4 hb5⟩
 ·have HS:=hid (show ∀X ch,LgSaid x mode X ch=(X=9221120237041090560∧ch=false) from fun X ch=>by unfold LgSaid;rw [if_neg c1,if_pos (.inr hn)])
  have hr:cmpI (rankOf x) 0= -1:=by
   have hx2:9223372036854775808≤x:=by
    unfold negB at hn
    exact of_decide_eq_true hn
   have h6:absOf x≠0:=fun h=>c1 ((class_zer x h0 h1).2 h)
   unfold absOf at h6
   have:rankOf x<0:=by unfold rankOf;rw [if_pos hx2];omega
   exact cmpI_l this
  rw [hr] at QC
  clear c5 c4 c1 hn hr hrk cz0
  generalize fv x=D at *
  generalize classOf x=kk at *
  go_enter Tryz.func9,Tryz.ntmps9
  go_upto_region 13 with (first
   |(go_at_call 27;(with_reducible refine (IN.out _).mono ?_);rintro en w1 ⟨rfl,rfl⟩)
   |(go_at_call 29;(with_reducible refine (II.out _).mono ?_);rintro en w1 ⟨rfl,rfl⟩)
   |(go_at_call 31;(with_reducible refine (IZ.out _).mono ?_);rintro en w1 ⟨rfl,rfl⟩)
   |(go_at_call 34;(with_reducible refine (QV.out _).mono ?_);rintro en w2 ⟨v2,rfl,⟨X2,nn2,a2,c2,rfl,n2,hD2,hX2,hn2⟩,hb2⟩;have zR2:=zR.below hb2;have HD2:=hid hD2;have HX2:=hid hX2;clear hD2 hX2;obtain ⟨⟨k0,k1,f0,f1,hs2⟩,k2,f2⟩:=id zR2))
  refine wp_worldZ (fun WW=>Below w.heap.size w WW∧QVr 49 3 WW w.heap.size D 1200 1100) ⟨Go.Ulp.Below.put3 (below_trans yb hb2) (by omega) _ _ _,QVr.put zR2 (by decide) n2 HD2.out HX2.out hn2⟩ ?_
  clear zR zR2 hb2 n2 HD2 HX2 hn2 k0 k1 f0 f1 hs2 k2 f2 yb
  intro W2 ⟨yb2,z8⟩
  obtain ⟨n8,s8,k8,q8,d8⟩:=id z8
  obtain ⟨⟨j0,j1,-⟩,j2,-⟩:=id q8
  go_upto_region 18 with (go_at_call 35;(with_reducible refine (QC.out _ _ d8).mono ?_);rintro en w3 ⟨rfl,hb3⟩)
  have yb3:=below_trans yb2 hb3
  have z83:=z8.below hb3
  clear yb2 z8 q8 d8 j0 j1 j2 hb3
  go_wp2_with (go_at_call 28;(with_reducible refine (QN.out _).mono ?_);rintro en w1 ⟨rfl,rfl⟩)
  go_ret2
  exact ⟨_,_,by rw [HS.out];exact ⟨rfl,rfl⟩,rfl,yb3⟩
end Go.Proofs.YtehhegbkahnhgaaGreatDoor
namespace Go.Ulp
open Go.RowKit
theorem sgn_plus1 (x:Int) (h0:0≤x) (h1:x<18446744073709551616):cmpD (addD (fv x) (nrm 1 0)) (0,0)=cmpI (rankOf x) (rankOf 13830554455654793216):=by
 rw [cmpD_zero]
 have h:=cmpD_sub (fv x) (nrm (-1) 0)
 rw [←nrm_neg,Int.neg_neg,←fv_m1,cmp_fv x _ h0 h1 (by omega) (by omega)] at h
 exact h.symm
theorem rank_m1 (x:Int) (h0:0≤x) (h1:x<18446744073709551616):(x<13830554455654793216→cmpI (rankOf x) (rankOf 13830554455654793216)=1)∧(13830554455654793216<x→cmpI (rankOf x) (rankOf 13830554455654793216)= -1):=by
 have e:rankOf 13830554455654793216= -4607182418800017408:=by decide
 rw [e]
 constructor
 ·intro h
  apply cmpI_g
  unfold rankOf
  split<;>omega
 ·intro h
  apply cmpI_l
  unfold rankOf
  split<;>omega
theorem abs_top (x:Int) (h0:0≤x) (h1:x<18446744073709551616) (hnz:(fv x).1≠0):(cmpD (absD (fv x)) (nrm 1 (-70))<0→topD (fv x)< -60∧x<13830554455654793216)∧(¬cmpD (absD (fv x)) (nrm 1 (-70))<0→ -70≤topD (fv x)):=by
 obtain ⟨-,b1,b2,b3⟩:=fv_bd x h0 h1
 have hI:IsN (fv x):=nrm_isN _ _
 have e0:=nrm_of_isN (fv x) hI
 obtain ⟨z,hz⟩: ∃z,z=1200:=⟨_,rfl⟩
 have ea:absD (fv x)=nrm (((fv x).1.natAbs:Nat):Int) (fv x).2:=by
  conv=>lhs;rw [←e0]
  rw [←nrm_natAbs]
 have c:=cmp_nrm (((fv x).1.natAbs:Nat):Int) (fv x).2 1 (-70) (-(z:Int)) (.inl (by omega)) (.inl (by omega))
 rw [←ea] at c
 unfold sc at c
 obtain ⟨f,hf⟩: ∃f,f=((fv x).2- -(z:Int)).toNat:=⟨_,rfl⟩
 obtain ⟨k,hk⟩: ∃k,k=((-70:Int)- -(z:Int)).toNat:=⟨_,rfl⟩
 rw [←hf,←hk,Int.one_mul,pw_nat,pw_nat,←Int.natCast_mul] at c
 rw [←c]
 have hM0:0<(fv x).1.natAbs:=by omega
 have p1:=pow_bl (fv x).1.natAbs hM0
 have p2:=lt_bl (fv x).1.natAbs
 have hb:=(bl_pos (fv x).1.natAbs).2 hM0
 unfold topD
 constructor
 ·intro h
  have h2:=Int.ofNat_lt.1 ((cmpI_lt _ _).1 h)
  have h3:2^(bl (fv x).1.natAbs-1+f)<2^k:=by
   rw [Nat.pow_add]
   exact Nat.lt_of_le_of_lt (Nat.mul_le_mul_right _ p1) h2
  have h4:=(Nat.pow_lt_pow_iff_right (a:=2) (by omega)).1 h3
  refine ⟨by omega,?_⟩
  rcases Int.lt_or_le x 13830554455654793216 with h9|h9
  ·exact h9
  ·exfalso
   have c1:=cmp_nrm (fv x).1 (fv x).2 (-1) 0 (-(z:Int)) (.inl (by omega)) (.inl (by omega))
   rw [e0,←fv_m1,cmp_fv x _ h0 h1 (by omega) (by omega)] at c1
   have c2:cmpI (rankOf x) (rankOf 13830554455654793216)≤0:=by
    apply (cmpI_le _ _).2
    have e:rankOf 13830554455654793216= -4607182418800017408:=by decide
    rw [e]
    unfold rankOf
    rw [if_pos (by omega)]
    omega
   rw [←c1] at c2
   have c3:=(cmpI_le _ _).1 c2
   unfold sc at c3
   rw [←hf,Int.neg_mul,Int.one_mul,show ((0:Int)- -(z:Int)).toNat=z by omega] at c3
   have c4:((fv x).1*pw f).natAbs=(fv x).1.natAbs*2^f:=natAbs_mul_pw _ _
   have c5:2^k≤2^z:=Nat.pow_le_pow_right (by omega) (by omega)
   rw [pw_nat z] at c3
   generalize (fv x).1*pw f=y at *
   omega
 ·intro h
  have h2:2^k≤(fv x).1.natAbs*2^f:=by
   have: ¬(((fv x).1.natAbs*2^f:Nat):Int)<((2^k:Nat):Int):=fun h3=>h ((cmpI_lt _ _).2 h3)
   omega
  have h3:2^k<2^(bl (fv x).1.natAbs+f):=by
   rw [Nat.pow_add]
   exact Nat.lt_of_le_of_lt h2 ((Nat.mul_lt_mul_right (Nat.two_pow_pos f)).2 p2)
  have h4:=(Nat.pow_lt_pow_iff_right (a:=2) (by omega)).1 h3
  omega
theorem dyQ10:dyQ 1 0=1:=by
 unfold dyQ
 rw [show (0:Int).toNat=0 from rfl,show (-(0:Int)).toNat=0 from rfl,Rat.pow_zero]
 have o1:((1:Nat):Rat)=1:=rfl
 rw [o1]
 grind
theorem plus1_ne {D:Dy} (hI:IsN D) (h0:0<D.1) (h:dyQ D.1.natAbs D.2≠1):cmpD D (nrm 1 0)≠0:=by
 intro h2
 have e:=cmpD_eq _ _ hI (nrm_isN _ _) h2
 apply h
 rw [e,show nrm 1 0=((1:Int),(0:Int)) by decide]
 exact dyQ10
end Go.Ulp
namespace Go.Proofs.YtehhegbkahnhgaaGreatDoor
open Go.RowKit Go.Ulp
set_option maxHeartbeats 4000000
set_option maxRecDepth 100000
theorem roundedS_any (v:Value) (D:Dy) (A T:Nat) (side mode:Int) (w:World) (hq:QD 3 w D A T v) (hI:IsN D) (hA:A≤10000000) (hT:T≤200000) (m0:0≤mode) (m1:mode≤4) (hs:side= -1∨side=0∨side=1):
 Calls Tryz.prog 39 #[v,.int .i64 side,.int .i64 mode] w (RetX w (bsX D side mode) (bsC D side mode)):=by
 refine (rounded_any v D A T side mode w hq hA hT hs).mono (fun en w' h=>?_)
 obtain ⟨l,hl,he,hb⟩:=h
 have e0:nrm (sg (decide (D.1<0)) (D.1.natAbs:Int)) D.2=D:=by rw [sg_self];exact nrm_of_isN D hI
 have r:=rounded_num (decide (D.1<0)) D.1.natAbs D.2 side mode l m0 m1 (fun h=>decide_eq_false (by omega)) hs (by rw [e0];exact hl)
 rw [e0] at r
 rw [r] at he
 exact ⟨he,hb⟩
theorem logBits1_any (x:Int) (h0:0≤x) (h1:x<18446744073709551616) (mode:Int) (m0:0≤mode) (m1:mode≤4) (w:World):
 Calls Tryz.prog 9 #[.int .u64 x,.bool true,.int .i64 mode] w (RetLB w (LpSaid x mode)):=by
 have IN:=hid (fun w=>rIsNan_any x h0 h1 w)
 have II:=hid (fun w=>rIsInf_any x h0 h1 w)
 have IZ:=hid (fun w=>rIsZero_any x h0 h1 w)
 have IM:=hid (fun w=>rMinus_any x h0 h1 w)
 have QN:=hid (fun w=>rQuiet_any w)
 have IB:=hid (fun w=>rInfBits_any w)
 have SG:=hid (show ∀w,Calls Tryz.prog 32 #[.int .u64 9218868437227405312,.bool true] w fun e w'=>e=.returned (.int .u64 18442240474082181120)∧w=w' from fun w=>rSigned_any 9218868437227405312 (by omega) (by omega) true w)
 have yb:=below_alloc w (.cells #[.bool false,.slice none 0 0,.int .i64 0] 49)
 have zR:QL 49 (w.alloc (.cells #[.bool false,.slice none 0 0,.int .i64 0] 49)) w.heap.size false (.slice none 0 0) 0:=QL.made rfl
 have nan5:isNan x=(classOf x==5):=rfl
 have inf4:isInf x=(classOf x==4):=rfl
 have zer1:isZer x=(classOf x==1):=rfl
 rw [nan5] at IN
 rw [inf4] at II
 rw [zer1] at IZ
 clear nan5 inf4 zer1
 by_cases c5:classOf x=5
 ·have HS:=hid (show ∀X ch,LpSaid x mode X ch=(X=9221120237041090560∧ch=false) from fun X ch=>by unfold LpSaid;rw [if_pos (.inl c5)])
  rw [c5] at IN II IZ
  clear c5
  go_enter Tryz.func9,Tryz.ntmps9
  go_wp2_with (first
   |(go_at_call 27;(with_reducible refine (IN.out _).mono ?_);rintro en w1 ⟨rfl,rfl⟩)
   |(go_at_call 29;(with_reducible refine (II.out _).mono ?_);rintro en w1 ⟨rfl,rfl⟩)
   |(go_at_call 31;(with_reducible refine (IZ.out _).mono ?_);rintro en w1 ⟨rfl,rfl⟩)
   |(go_at_call 30;(with_reducible refine (IM.out _).mono ?_);rintro en w1 ⟨rfl,rfl⟩)
   |(go_at_call 28;(with_reducible refine (QN.out _).mono ?_);rintro en w1 ⟨rfl,rfl⟩)
   |(go_at_call 33;(with_reducible refine (IB.out _).mono ?_);rintro en w1 ⟨rfl,rfl⟩)
   |(go_at_call 32;(with_reducible refine (SG.out _).mono ?_);rintro en w1 ⟨rfl,rfl⟩))
  go_ret2
  exact ⟨_,_,by rw [HS.out];exact ⟨rfl,rfl⟩,rfl,yb⟩
 have z5:(classOf x==5)=false:=beq_eq_false_iff_ne.2 c5
 rw [z5] at IN
 by_cases c4:classOf x=4
 ·rw [c4] at II IZ
  have hab:=(class_inf x h0 h1).1 c4
  unfold absOf at hab
  cases hn:negB x
  ·have hx2:x<9223372036854775808:=by
    unfold negB at hn
    have:=of_decide_eq_false hn
    omega
   have HS:=hid (show ∀X ch,LpSaid x mode X ch=(X=x∧ch=false) from fun X ch=>by unfold LpSaid;rw [if_neg (by omega),if_neg (by omega),if_pos (by omega)])
   rw [hn] at IM
   clear c5 z5 c4 hab hn hx2
   go_enter Tryz.func9,Tryz.ntmps9
   go_wp2_with (first
    |(go_at_call 27;(with_reducible refine (IN.out _).mono ?_);rintro en w1 ⟨rfl,rfl⟩)
    |(go_at_call 29;(with_reducible refine (II.out _).mono ?_);rintro en w1 ⟨rfl,rfl⟩)
    |(go_at_call 31;(with_reducible refine (IZ.out _).mono ?_);rintro en w1 ⟨rfl,rfl⟩)
    |(go_at_call 30;(with_reducible refine (IM.out _).mono ?_);rintro en w1 ⟨rfl,rfl⟩)
    |(go_at_call 28;(with_reducible refine (QN.out _).mono ?_);rintro en w1 ⟨rfl,rfl⟩)
    |(go_at_call 33;(with_reducible refine (IB.out _).mono ?_);rintro en w1 ⟨rfl,rfl⟩)
    |(go_at_call 32;(with_reducible refine (SG.out _).mono ?_);rintro en w1 ⟨rfl,rfl⟩))
   go_ret2
   exact ⟨_,_,by rw [HS.out];exact ⟨rfl,rfl⟩,rfl,yb⟩
  ·have hx2:9223372036854775808≤x:=by
    unfold negB at hn
    exact of_decide_eq_true hn
   have HS:=hid (show ∀X ch,LpSaid x mode X ch=(X=9221120237041090560∧ch=false) from fun X ch=>by unfold LpSaid;rw [if_pos (.inr (by omega))])
   rw [hn] at IM
   clear c5 z5 c4 hab hn hx2
   go_enter Tryz.func9,Tryz.ntmps9
   go_wp2_with (first
    |(go_at_call 27;(with_reducible refine (IN.out _).mono ?_);rintro en w1 ⟨rfl,rfl⟩)
    |(go_at_call 29;(with_reducible refine (II.out _).mono ?_);rintro en w1 ⟨rfl,rfl⟩)
    |(go_at_call 31;(with_reducible refine (IZ.out _).mono ?_);rintro en w1 ⟨rfl,rfl⟩)
    |(go_at_call 30;(with_reducible refine (IM.out _).mono ?_);rintro en w1 ⟨rfl,rfl⟩)
    |(go_at_call 28;(with_reducible refine (QN.out _).mono ?_);rintro en w1 ⟨rfl,rfl⟩)
    |(go_at_call 33;(with_reducible refine (IB.out _).mono ?_);rintro en w1 ⟨rfl,rfl⟩)
    |(go_at_call 32;(with_reducible refine (SG.out _).mono ?_);rintro en w1 ⟨rfl,rfl⟩))
   go_ret2
   exact ⟨_,_,by rw [HS.out];exact ⟨rfl,rfl⟩,rfl,yb⟩
 have z4:(classOf x==4)=false:=beq_eq_false_iff_ne.2 c4
 rw [z4] at II
 by_cases c1:classOf x=1
 ·have hab:=(class_zer x h0 h1).1 c1
  unfold absOf at hab
  have HS:=hid (show ∀X ch,LpSaid x mode X ch=(X=x∧ch=false) from fun X ch=>by unfold LpSaid;rw [if_neg (by omega),if_neg (by omega),if_pos (.inl c1)])
  rw [c1] at IZ
  clear c5 z5 c4 z4 c1 hab
  go_enter Tryz.func9,Tryz.ntmps9
  go_wp2_with (first
   |(go_at_call 27;(with_reducible refine (IN.out _).mono ?_);rintro en w1 ⟨rfl,rfl⟩)
   |(go_at_call 29;(with_reducible refine (II.out _).mono ?_);rintro en w1 ⟨rfl,rfl⟩)
   |(go_at_call 31;(with_reducible refine (IZ.out _).mono ?_);rintro en w1 ⟨rfl,rfl⟩)
   |(go_at_call 30;(with_reducible refine (IM.out _).mono ?_);rintro en w1 ⟨rfl,rfl⟩)
   |(go_at_call 28;(with_reducible refine (QN.out _).mono ?_);rintro en w1 ⟨rfl,rfl⟩)
   |(go_at_call 33;(with_reducible refine (IB.out _).mono ?_);rintro en w1 ⟨rfl,rfl⟩)
   |(go_at_call 32;(with_reducible refine (SG.out _).mono ?_);rintro en w1 ⟨rfl,rfl⟩))
  go_ret2
  exact ⟨_,_,by rw [HS.out];exact ⟨rfl,rfl⟩,rfl,yb⟩
 have z1:(classOf x==1)=false:=beq_eq_false_iff_ne.2 c1
 rw [z1] at IZ
 have hcb:=class_bd x
 have hc4:classOf x<4:=by omega
 have hnInf:x≠9218868437227405312:=fun h=>c4 ((class_inf x h0 h1).2 (by rw [h];decide))
 have hI:IsN (fv x):=nrm_isN _ _
 have hnz:(fv x).1≠0:=by
  intro h2
  have h3:=fv_sgn9 x h0 h1
  rw [h2] at h3
  have h4:cmpI (rankOf x) 0=0:=by rw [←h3];decide
  have h5:=(cmpI_eq_zero _ _).1 h4
  have h6:absOf x≠0:=fun h=>c1 ((class_zer x h0 h1).2 h)
  unfold rankOf at h5
  unfold absOf at h6
  split at h5<;>omega
 obtain ⟨at1,at2⟩:=abs_top x h0 h1 hnz
 have QV:=hid (fun w=>qval_any x h0 h1 w)
 have QA:=hid (fun v w h=>qabs_any v (fv x) 1200 1100 w h (by omega) (by omega))
 have ON:=hid (fun w=>zND 1 (by omega) (by omega) w)
 have QM:=hid (fun a c w (h:Nz 3 w a c (zl 1))=>qmake_any a c 1 (-70) 1 70 w h (by decide) (by omega) (by omega) (by omega))
 have QC:=hid (fun v u w h k=>qcmp_any v u (absD (fv x)) (nrm 1 (-70)) 1200 1100 (1+70) 70 w h k (by omega) (by omega) (by omega) (by omega))
 have hmf: ∀fn first cap w,(Instr.makeFunc fn first cap).run Tryz.prog w=.ok (.func fn first cap) w:=fun _ _ _ _=>rfl
 obtain ⟨ca,hca⟩: ∃c,c=cmpD (absD (fv x)) (nrm 1 (-70)):=⟨_,rfl⟩
 rw [←hca] at QC at1 at2
 by_cases hs:ca<0
 ·obtain ⟨t1,t2⟩:=at1 hs
  have HS:=hid (show ∀X ch,LpSaid x mode X ch=(X=bsX (fv x) (-1) mode∧ch=bsC (fv x) (-1) mode) from fun X ch=>by unfold LpSaid;rw [if_neg (by omega),if_neg (by omega),if_neg (by omega),if_pos t1])
  have RD:=hid (fun v w h=>roundedS_any v (fv x) 1200 1100 (-1) mode w h hI (by omega) (by omega) m0 m1 (.inl rfl))
  clear z5 z4 z1 c5 c4 c1 hc4 hcb hnInf hI hnz t1 t2 at1 at2 hca
  generalize bsX (fv x) (-1) mode=RX at *
  generalize bsC (fv x) (-1) mode=RC at *
  generalize absD (fv x)=AD at *
  generalize classOf x=kk at *
  generalize fv x=D at *
  go_enter Tryz.func9,Tryz.ntmps9
  go_upto_region 13 with (first
   |(go_at_call 27;(with_reducible refine (IN.out _).mono ?_);rintro en w1 ⟨rfl,rfl⟩)
   |(go_at_call 29;(with_reducible refine (II.out _).mono ?_);rintro en w1 ⟨rfl,rfl⟩)
   |(go_at_call 31;(with_reducible refine (IZ.out _).mono ?_);rintro en w1 ⟨rfl,rfl⟩)
   |(go_at_call 34;(with_reducible refine (QV.out _).mono ?_);rintro en w2 ⟨v2,rfl,⟨X2,nn2,a2,c2,rfl,n2,hD2,hX2,hn2⟩,hb2⟩;have zR2:=zR.below hb2;have HD2:=hid hD2;have HX2:=hid hX2;clear hD2 hX2;obtain ⟨⟨k0,k1,f0,f1,hs2⟩,k2,f2⟩:=id zR2))
  refine wp_worldZ (fun WW=>Below w.heap.size w WW∧QVr 49 3 WW w.heap.size D 1200 1100) ⟨Go.Ulp.Below.put3 (below_trans yb hb2) (by omega) _ _ _,QVr.put zR2 (by decide) n2 HD2.out HX2.out hn2⟩ ?_
  clear zR zR2 hb2 n2 HD2 HX2 hn2 k0 k1 f0 f1 hs2 k2 f2 yb
  intro W2 ⟨yb2,z8⟩
  obtain ⟨n8,s8,k8,q8,d8⟩:=id z8
  obtain ⟨⟨j0,j1,-⟩,j2,-⟩:=id q8
  go_upto_region 15 with (first
   |(go_at_call 36;(with_reducible refine (QA.out _ _ d8).mono ?_);rintro en w3 ⟨v3,rfl,hq3,hb3⟩)
   |(go_at_call 38;(with_reducible refine (ON.out _).mono ?_);rintro en w4 ⟨v4,rfl,⟨a4,c4,rfl,m4⟩,hb4⟩)
   |(go_at_call 37;(with_reducible refine (QM.out _ _ _ m4).mono ?_);rintro en w5 ⟨v5,rfl,hq5,hb5⟩)
   |(go_at_call 35;(with_reducible refine (QC.out _ _ _ ((hq3.below hb4).below hb5) hq5).mono ?_);rintro en w6 ⟨rfl,hb6⟩;have hb36:=below_trans (below_trans (below_trans hb3 hb4) hb5) hb6))
  have yb3:=below_trans yb2 hb36
  have z83:=z8.below hb36
  clear yb2 z8 q8 d8 j0 j1 j2 hb3 hb4 hb5 hb6 hb36 hq3 hq5 m4
  obtain ⟨n9,s9,k9,q9,d9⟩:=id z83
  obtain ⟨⟨j0,j1,-⟩,j2,-⟩:=id q9
  go_wp2_with (go_at_call 39;(with_reducible refine (RD.out _ _ d9).mono ?_);rintro en w9 ⟨rfl,hb9⟩)
  go_ret2
  exact ⟨_,_,by rw [HS.out];exact ⟨rfl,rfl⟩,rfl,below_trans yb3 hb9⟩
 ·have ht:=at2 hs
  have QI:=hid (fun w=>qint9_any w)
  obtain ⟨AA,hAA⟩: ∃a,a=max 1200 1+max 1100 0+1:=⟨_,rfl⟩
  obtain ⟨TT,hTT⟩: ∃a,a=max 1100 0:=⟨_,rfl⟩
  have QP:=hid (fun v u w h k=>qadd_any v u (fv x) (nrm 1 0) 1200 1100 1 0 w h k (by omega) (by omega) (by omega) (by omega))
  rw [←hAA,←hTT] at QP
  have QC0:=hid (fun v w h=>qcmp_any v _ (addD (fv x) (nrm 1 0)) (0,0) AA TT 1 0 w h (QD.zero (by omega)) (by omega) (by omega) (by omega) (by omega))
  rw [sgn_plus1 x h0 h1] at QC0
  obtain ⟨rm1,rm2⟩:=rank_m1 x h0 h1
  by_cases cg:13830554455654793216<x
  ·have HS:=hid (show ∀X ch,LpSaid x mode X ch=(X=9221120237041090560∧ch=false) from fun X ch=>by unfold LpSaid;rw [if_pos (.inr cg)])
   rw [rm2 cg] at QC0
   clear z5 z4 z1 c5 c4 c1 hc4 hcb hnInf hI hnz at1 at2 hca ht rm1 rm2 cg hAA hTT
   generalize addD (fv x) (nrm 1 0)=D1 at *
   generalize absD (fv x)=AD at *
   generalize classOf x=kk at *
   generalize fv x=D at *
   obtain ⟨I1,hI1⟩: ∃I,I=nrm 1 0:=⟨_,rfl⟩
   rw [←hI1] at QI QP
   go_enter Tryz.func9,Tryz.ntmps9
   go_upto_region 13 with (first
    |(go_at_call 27;(with_reducible refine (IN.out _).mono ?_);rintro en w1 ⟨rfl,rfl⟩)
    |(go_at_call 29;(with_reducible refine (II.out _).mono ?_);rintro en w1 ⟨rfl,rfl⟩)
    |(go_at_call 31;(with_reducible refine (IZ.out _).mono ?_);rintro en w1 ⟨rfl,rfl⟩)
    |(go_at_call 34;(with_reducible refine (QV.out _).mono ?_);rintro en w2 ⟨v2,rfl,⟨X2,nn2,a2,c2,rfl,n2,hD2,hX2,hn2⟩,hb2⟩;have zR2:=zR.below hb2;have HD2:=hid hD2;have HX2:=hid hX2;clear hD2 hX2;obtain ⟨⟨k0,k1,f0,f1,hs2⟩,k2,f2⟩:=id zR2))
   refine wp_worldZ (fun WW=>Below w.heap.size w WW∧QVr 49 3 WW w.heap.size D 1200 1100) ⟨Go.Ulp.Below.put3 (below_trans yb hb2) (by omega) _ _ _,QVr.put zR2 (by decide) n2 HD2.out HX2.out hn2⟩ ?_
   clear zR zR2 hb2 n2 HD2 HX2 hn2 k0 k1 f0 f1 hs2 k2 f2 yb
   intro W2 ⟨yb2,z8⟩
   obtain ⟨n8,s8,k8,q8,d8⟩:=id z8
   obtain ⟨⟨j0,j1,-⟩,j2,-⟩:=id q8
   go_upto_region 16 with (first
    |(go_at_call 36;(with_reducible refine (QA.out _ _ d8).mono ?_);rintro en w3 ⟨v3,rfl,hq3,hb3⟩)
    |(go_at_call 38;(with_reducible refine (ON.out _).mono ?_);rintro en w4 ⟨v4,rfl,⟨a4,c4,rfl,m4⟩,hb4⟩)
    |(go_at_call 37;(with_reducible refine (QM.out _ _ _ m4).mono ?_);rintro en w5 ⟨v5,rfl,hq5,hb5⟩)
    |(go_at_call 35;(with_reducible refine (QC.out _ _ _ ((hq3.below hb4).below hb5) hq5).mono ?_);rintro en w6 ⟨rfl,hb6⟩;have hb36:=below_trans (below_trans (below_trans hb3 hb4) hb5) hb6))
   have yb3:=below_trans yb2 hb36
   have z83:=z8.below hb36
   clear yb2 z8 q8 d8 j0 j1 j2 hb3 hb4 hb5 hb6 hb36 hq3 hq5 m4
   refine wp_region_grow 3 [54,55,56] [Fact.q 3 D 1200 1100,Fact.q 3 I1 1 0,Fact.q 3 D1 AA TT] (by kernel_rfl) (by kernel_rfl) ⟨?o0,?o1,?o2,trivial⟩ ?after
   case o0=>(refine oQ rfl ?_;intro ρ w1 R hcon hfn hρ hb hp hR;have e8:ρ (.tmp 8)=.pointer (some ⟨w.heap.size,0,none⟩):=hρ.tmp 8 rfl;obtain ⟨n8',s8',k8',⟨⟨j0,j1,-⟩,j2,-⟩,d8'⟩:=z83.below hb;clear hρ hp;unfold OpRun;go_simp;exact hR _ _ (Below.refl _ _) d8')
   case o1=>(refine oQ rfl ?_;intro ρ w1 R hcon hfn hρ hb hp hR;clear hρ hp;unfold OpRun;go_simp;(refine (QI.out _).mono ?_;rintro e wn ⟨v9,rfl,hv9,hbn⟩;exact ⟨_,rfl,hR _ _ hbn hv9⟩))
   case o2=>(refine oQ rfl ?_;intro ρ w1 R hcon hfn hρ hb hp hR;have f54:=hp 0 54 rfl rfl;have f55:=hp 1 55 rfl rfl;clear hρ hp;unfold OpRun;go_simp;(refine (QP.out _ _ _ f54 f55).mono ?_;rintro e wn ⟨v9,rfl,hv9,hbn⟩;exact ⟨_,rfl,hR _ _ hbn hv9⟩))
   case after=>
    intro u wn hb hf
    have f56:=hf 2 56 (by omega) rfl
    clear hf
    simp only [putAll,Act.put,List.setIfInBounds_toArray,List.set_cons_zero,List.set_cons_succ,List.drop_succ_cons,List.drop_zero,List.drop_nil]
    obtain ⟨X6,n6,a6,c6,e56,m6,hD6,hX6,hn6⟩:=f56
    rw [e56]
    have yb6:=below_trans yb3 hb
    obtain ⟨n7,s7,k7,z7⟩:=(z83.below hb).ql
    have HD6:=hid hD6
    have HX6:=hid hX6
    obtain ⟨⟨k0,k1,f0,f1,hs2⟩,k2,f2⟩:=id z7
    clear e56 hD6 hX6 z83 yb3 hb
    go_upto_region 17 with fail
    refine wp_worldZ (fun WW=>Below w.heap.size w WW∧QVr 49 3 WW w.heap.size D1 AA TT) ⟨Go.Ulp.Below.put3 yb6 (by omega) _ _ _,QVr.put z7 (by decide) m6 HD6.out HX6.out hn6⟩ ?_
    clear z7 yb6 m6 HD6 HX6 hn6 k0 k1 f0 f1 hs2 k2 f2
    intro W7 ⟨yb2,z8⟩
    obtain ⟨n8,s8,k8,q8,d8⟩:=id z8
    obtain ⟨⟨j0,j1,-⟩,j2,-⟩:=id q8
    go_upto_region 18 with (go_at_call 35;(with_reducible refine (QC0.out _ _ d8).mono ?_);rintro en w8 ⟨rfl,hb8⟩)
    have yb3:=below_trans yb2 hb8
    have z83:=z8.below hb8
    clear yb2 z8 q8 d8 j0 j1 j2 hb8
    go_wp2_with (go_at_call 28;(with_reducible refine (QN.out _).mono ?_);rintro en w1 ⟨rfl,rfl⟩)
    go_ret2
    exact ⟨_,_,by rw [HS.out];exact ⟨rfl,rfl⟩,rfl,yb3⟩
  by_cases cm:x=13830554455654793216
  ·have HS:=hid (show ∀X ch,LpSaid x mode X ch=(X=18442240474082181120∧ch=false) from fun X ch=>by unfold LpSaid;rw [if_neg (by omega),if_pos cm])
   have e9:cmpI (rankOf x) (rankOf 13830554455654793216)=0:=by rw [cm];exact (cmpI_eq_zero _ _).2 rfl
   rw [e9] at QC0
   clear z5 z4 z1 c5 c4 c1 hc4 hcb hnInf hI hnz at1 at2 hca ht rm1 rm2 cg cm e9 hAA hTT
   generalize addD (fv x) (nrm 1 0)=D1 at *
   generalize absD (fv x)=AD at *
   generalize classOf x=kk at *
   generalize fv x=D at *
   obtain ⟨I1,hI1⟩: ∃I,I=nrm 1 0:=⟨_,rfl⟩
   rw [←hI1] at QI QP
   go_enter Tryz.func9,Tryz.ntmps9
   go_upto_region 13 with (first
    |(go_at_call 27;(with_reducible refine (IN.out _).mono ?_);rintro en w1 ⟨rfl,rfl⟩)
    |(go_at_call 29;(with_reducible refine (II.out _).mono ?_);rintro en w1 ⟨rfl,rfl⟩)
    |(go_at_call 31;(with_reducible refine (IZ.out _).mono ?_);rintro en w1 ⟨rfl,rfl⟩)
    |(go_at_call 34;(with_reducible refine (QV.out _).mono ?_);rintro en w2 ⟨v2,rfl,⟨X2,nn2,a2,c2,rfl,n2,hD2,hX2,hn2⟩,hb2⟩;have zR2:=zR.below hb2;have HD2:=hid hD2;have HX2:=hid hX2;clear hD2 hX2;obtain ⟨⟨k0,k1,f0,f1,hs2⟩,k2,f2⟩:=id zR2))
   refine wp_worldZ (fun WW=>Below w.heap.size w WW∧QVr 49 3 WW w.heap.size D 1200 1100) ⟨Go.Ulp.Below.put3 (below_trans yb hb2) (by omega) _ _ _,QVr.put zR2 (by decide) n2 HD2.out HX2.out hn2⟩ ?_
   clear zR zR2 hb2 n2 HD2 HX2 hn2 k0 k1 f0 f1 hs2 k2 f2 yb
   intro W2 ⟨yb2,z8⟩
   obtain ⟨n8,s8,k8,q8,d8⟩:=id z8
   obtain ⟨⟨j0,j1,-⟩,j2,-⟩:=id q8
   go_upto_region 16 with (first
    |(go_at_call 36;(with_reducible refine (QA.out _ _ d8).mono ?_);rintro en w3 ⟨v3,rfl,hq3,hb3⟩)
    |(go_at_call 38;(with_reducible refine (ON.out _).mono ?_);rintro en w4 ⟨v4,rfl,⟨a4,c4,rfl,m4⟩,hb4⟩)
    |(go_at_call 37;(with_reducible refine (QM.out _ _ _ m4).mono ?_);rintro en w5 ⟨v5,rfl,hq5,hb5⟩)
    |(go_at_call 35;(with_reducible refine (QC.out _ _ _ ((hq3.below hb4).below hb5) hq5).mono ?_);rintro en w6 ⟨rfl,hb6⟩;have hb36:=below_trans (below_trans (below_trans hb3 hb4) hb5) hb6))
   have yb3:=below_trans yb2 hb36
   have z83:=z8.below hb36
   clear yb2 z8 q8 d8 j0 j1 j2 hb3 hb4 hb5 hb6 hb36 hq3 hq5 m4
   refine wp_region_grow 3 [54,55,56] [Fact.q 3 D 1200 1100,Fact.q 3 I1 1 0,Fact.q 3 D1 AA TT] (by kernel_rfl) (by kernel_rfl) ⟨?o0,?o1,?o2,trivial⟩ ?after
   case o0=>(refine oQ rfl ?_;intro ρ w1 R hcon hfn hρ hb hp hR;have e8:ρ (.tmp 8)=.pointer (some ⟨w.heap.size,0,none⟩):=hρ.tmp 8 rfl;obtain ⟨n8',s8',k8',⟨⟨j0,j1,-⟩,j2,-⟩,d8'⟩:=z83.below hb;clear hρ hp;unfold OpRun;go_simp;exact hR _ _ (Below.refl _ _) d8')
   case o1=>(refine oQ rfl ?_;intro ρ w1 R hcon hfn hρ hb hp hR;clear hρ hp;unfold OpRun;go_simp;(refine (QI.out _).mono ?_;rintro e wn ⟨v9,rfl,hv9,hbn⟩;exact ⟨_,rfl,hR _ _ hbn hv9⟩))
   case o2=>(refine oQ rfl ?_;intro ρ w1 R hcon hfn hρ hb hp hR;have f54:=hp 0 54 rfl rfl;have f55:=hp 1 55 rfl rfl;clear hρ hp;unfold OpRun;go_simp;(refine (QP.out _ _ _ f54 f55).mono ?_;rintro e wn ⟨v9,rfl,hv9,hbn⟩;exact ⟨_,rfl,hR _ _ hbn hv9⟩))
   case after=>
    intro u wn hb hf
    have f56:=hf 2 56 (by omega) rfl
    clear hf
    simp only [putAll,Act.put,List.setIfInBounds_toArray,List.set_cons_zero,List.set_cons_succ,List.drop_succ_cons,List.drop_zero,List.drop_nil]
    obtain ⟨X6,n6,a6,c6,e56,m6,hD6,hX6,hn6⟩:=f56
    rw [e56]
    have yb6:=below_trans yb3 hb
    obtain ⟨n7,s7,k7,z7⟩:=(z83.below hb).ql
    have HD6:=hid hD6
    have HX6:=hid hX6
    obtain ⟨⟨k0,k1,f0,f1,hs2⟩,k2,f2⟩:=id z7
    clear e56 hD6 hX6 z83 yb3 hb
    go_upto_region 17 with fail
    refine wp_worldZ (fun WW=>Below w.heap.size w WW∧QVr 49 3 WW w.heap.size D1 AA TT) ⟨Go.Ulp.Below.put3 yb6 (by omega) _ _ _,QVr.put z7 (by decide) m6 HD6.out HX6.out hn6⟩ ?_
    clear z7 yb6 m6 HD6 HX6 hn6 k0 k1 f0 f1 hs2 k2 f2
    intro W7 ⟨yb2,z8⟩
    obtain ⟨n8,s8,k8,q8,d8⟩:=id z8
    obtain ⟨⟨j0,j1,-⟩,j2,-⟩:=id q8
    go_upto_region 18 with (go_at_call 35;(with_reducible refine (QC0.out _ _ d8).mono ?_);rintro en w8 ⟨rfl,hb8⟩)
    have yb3:=below_trans yb2 hb8
    have z83:=z8.below hb8
    clear yb2 z8 q8 d8 j0 j1 j2 hb8
    go_wp2_with (first
     |(go_at_call 33;(with_reducible refine (IB.out _).mono ?_);rintro en w1 ⟨rfl,rfl⟩)
     |(go_at_call 32;(with_reducible refine (SG.out _).mono ?_);rintro en w1 ⟨rfl,rfl⟩))
    go_ret2
    exact ⟨_,_,by rw [HS.out];exact ⟨rfl,rfl⟩,rfl,yb3⟩
  have hgt:x<13830554455654793216:=by omega
  rw [rm1 hgt] at QC0
  obtain ⟨p1,p2,p3,p4⟩:=lp_ok x h0 h1 hgt hc4 c1 ht
  have hI1:IsN (addD (fv x) (nrm 1 0)):=by unfold addD;exact nrm_isN _ _
  have HSX:=hid (show ∀X,LnR (addD (fv x) (nrm 1 0)).1.natAbs (addD (fv x) (nrm 1 0)).2 mode X→LpSaid x mode X true from fun X hX=>by
   unfold LpSaid
   rw [if_neg (by omega),if_neg (by omega),if_neg (by omega)]
   by_cases ct:topD (fv x)< -60
   ·rw [if_pos ct]
    exact lp_near x mode X h0 h1 hgt hc4 c1 ht ct m0 m1 hX
   ·rw [if_neg ct]
    exact ⟨rfl,hX⟩)
  have QC1:=hid (fun v u w h k=>qcmp_any v u (addD (fv x) (nrm 1 0)) (nrm 1 0) AA TT 1 0 w h k (by omega) (by omega) (by omega) (by omega))
  obtain ⟨k1,hk1⟩: ∃k,k=cmpD (addD (fv x) (nrm 1 0)) (nrm 1 0):=⟨_,rfl⟩
  have hz1:(k1==0)=false:=beq_eq_false_iff_ne.2 (fun h=>plus1_ne hI1 p1 p4 (by rw [←hk1];exact h))
  rw [←hk1] at QC1
  have BB:=hid (fun g w h=>lbBy_any (addD (fv x) (nrm 1 0)) mode g w h hI1 p1 p2 p3 p4 m0 m1)
  have HWK:=hid (show AA≤400000∧TT≤200000 from ⟨by omega,by omega⟩)
  clear z5 z4 z1 c5 c4 c1 hc4 hcb hnInf hI hnz at1 at2 hca ht rm1 rm2 cg cm hgt p1 p2 p3 p4 hI1 hk1 hAA hTT
  generalize addD (fv x) (nrm 1 0)=D1 at *
  generalize absD (fv x)=AD at *
  generalize classOf x=kk at *
  generalize fv x=D at *
  obtain ⟨I1,hI1⟩: ∃I,I=nrm 1 0:=⟨_,rfl⟩
  rw [←hI1] at QI QP QC1
  go_enter Tryz.func9,Tryz.ntmps9
  go_upto_region 13 with (first
   |(go_at_call 27;(with_reducible refine (IN.out _).mono ?_);rintro en w1 ⟨rfl,rfl⟩)
   |(go_at_call 29;(with_reducible refine (II.out _).mono ?_);rintro en w1 ⟨rfl,rfl⟩)
   |(go_at_call 31;(with_reducible refine (IZ.out _).mono ?_);rintro en w1 ⟨rfl,rfl⟩)
   |(go_at_call 34;(with_reducible refine (QV.out _).mono ?_);rintro en w2 ⟨v2,rfl,⟨X2,nn2,a2,c2,rfl,n2,hD2,hX2,hn2⟩,hb2⟩;have zR2:=zR.below hb2;have HD2:=hid hD2;have HX2:=hid hX2;clear hD2 hX2;obtain ⟨⟨k0,k1,f0,f1,hs2⟩,k2,f2⟩:=id zR2))
  refine wp_worldZ (fun WW=>Below w.heap.size w WW∧QVr 49 3 WW w.heap.size D 1200 1100) ⟨Go.Ulp.Below.put3 (below_trans yb hb2) (by omega) _ _ _,QVr.put zR2 (by decide) n2 HD2.out HX2.out hn2⟩ ?_
  clear zR zR2 hb2 n2 HD2 HX2 hn2 k0 k1 f0 f1 hs2 k2 f2 yb
  intro W2 ⟨yb2,z8⟩
  obtain ⟨n8,s8,k8,q8,d8⟩:=id z8
  obtain ⟨⟨j0,j1,-⟩,j2,-⟩:=id q8
  go_upto_region 16 with (first
   |(go_at_call 36;(with_reducible refine (QA.out _ _ d8).mono ?_);rintro en w3 ⟨v3,rfl,hq3,hb3⟩)
   |(go_at_call 38;(with_reducible refine (ON.out _).mono ?_);rintro en w4 ⟨v4,rfl,⟨a4,c4,rfl,m4⟩,hb4⟩)
   |(go_at_call 37;(with_reducible refine (QM.out _ _ _ m4).mono ?_);rintro en w5 ⟨v5,rfl,hq5,hb5⟩)
   |(go_at_call 35;(with_reducible refine (QC.out _ _ _ ((hq3.below hb4).below hb5) hq5).mono ?_);rintro en w6 ⟨rfl,hb6⟩;have hb36:=below_trans (below_trans (below_trans hb3 hb4) hb5) hb6))
  have yb3:=below_trans yb2 hb36
  have z83:=z8.below hb36
  clear yb2 z8 q8 d8 j0 j1 j2 hb3 hb4 hb5 hb6 hb36 hq3 hq5 m4
  refine wp_region_grow 3 [54,55,56] [Fact.q 3 D 1200 1100,Fact.q 3 I1 1 0,Fact.q 3 D1 AA TT] (by kernel_rfl) (by kernel_rfl) ⟨?o0,?o1,?o2,trivial⟩ ?after
  case o0=>(refine oQ rfl ?_;intro ρ w1 R hcon hfn hρ hb hp hR;have e8:ρ (.tmp 8)=.pointer (some ⟨w.heap.size,0,none⟩):=hρ.tmp 8 rfl;obtain ⟨n8',s8',k8',⟨⟨j0,j1,-⟩,j2,-⟩,d8'⟩:=z83.below hb;clear hρ hp;unfold OpRun;go_simp;exact hR _ _ (Below.refl _ _) d8')
  case o1=>(refine oQ rfl ?_;intro ρ w1 R hcon hfn hρ hb hp hR;clear hρ hp;unfold OpRun;go_simp;(refine (QI.out _).mono ?_;rintro e wn ⟨v9,rfl,hv9,hbn⟩;exact ⟨_,rfl,hR _ _ hbn hv9⟩))
  case o2=>(refine oQ rfl ?_;intro ρ w1 R hcon hfn hρ hb hp hR;have f54:=hp 0 54 rfl rfl;have f55:=hp 1 55 rfl rfl;clear hρ hp;unfold OpRun;go_simp;(refine (QP.out _ _ _ f54 f55).mono ?_;rintro e wn ⟨v9,rfl,hv9,hbn⟩;exact ⟨_,rfl,hR _ _ hbn hv9⟩))
  case after=>
   intro u wn hb hf
   have f56:=hf 2 56 (by omega) rfl
   clear hf
   simp only [putAll,Act.put,List.setIfInBounds_toArray,List.set_cons_zero,List.set_cons_succ,List.drop_succ_cons,List.drop_zero,List.drop_nil]
   obtain ⟨X6,n6,a6,c6,e56,m6,hD6,hX6,hn6⟩:=f56
   rw [e56]
   have yb6:=below_trans yb3 hb
   obtain ⟨n7,s7,k7,z7⟩:=(z83.below hb).ql
   have HD6:=hid hD6
   have HX6:=hid hX6
   obtain ⟨⟨k0,k1,f0,f1,hs2⟩,k2,f2⟩:=id z7
   clear e56 hD6 hX6 z83 yb3 hb
   go_upto_region 17 with fail
   refine wp_worldZ (fun WW=>Below w.heap.size w WW∧QVr 49 3 WW w.heap.size D1 AA TT) ⟨Go.Ulp.Below.put3 yb6 (by omega) _ _ _,QVr.put z7 (by decide) m6 HD6.out HX6.out hn6⟩ ?_
   clear z7 yb6 m6 HD6 HX6 hn6 k0 k1 f0 f1 hs2 k2 f2
   intro W7 ⟨yb2,z8⟩
   obtain ⟨n8,s8,k8,q8,d8⟩:=id z8
   obtain ⟨⟨j0,j1,-⟩,j2,-⟩:=id q8
   go_upto_region 18 with (go_at_call 35;(with_reducible refine (QC0.out _ _ d8).mono ?_);rintro en w8 ⟨rfl,hb8⟩)
   have yb3:=below_trans yb2 hb8
   have z83:=z8.below hb8
   clear yb2 z8 q8 d8 j0 j1 j2 hb8
   go_upto_region 22 with fail
   refine wp_region_grow 5 [70,71,72,73,69] [Fact.q 3 D1 AA TT,Fact.q 3 I1 1 0,Fact.is (.int .i64 k1),Fact.is (.bool false),Fact.is (.bool false)] (by kernel_rfl) (by kernel_rfl) ⟨?o0,?o1,?o2,?o3,?o4,trivial⟩ ?after
   case o0=>(refine oQ rfl ?_;intro ρ w1 R hcon hfn hρ hb hp hR;have e8:ρ (.tmp 8)=.pointer (some ⟨w.heap.size,0,none⟩):=hρ.tmp 8 rfl;obtain ⟨n8',s8',k8',⟨⟨j0,j1,-⟩,j2,-⟩,d8'⟩:=z83.below hb;clear hρ hp;unfold OpRun;go_simp;exact hR _ _ (Below.refl _ _) d8')
   case o1=>(refine oQ rfl ?_;intro ρ w1 R hcon hfn hρ hb hp hR;clear hρ hp;unfold OpRun;go_simp;(refine (QI.out _).mono ?_;rintro e wn ⟨v9,rfl,hv9,hbn⟩;exact ⟨_,rfl,hR _ _ hbn hv9⟩))
   case o2=>(refine oQ rfl ?_;intro ρ w1 R hcon hfn hρ hb hp hR;have f70:=hp 0 70 rfl rfl;have f71:=hp 1 71 rfl rfl;clear hρ hp;unfold OpRun;go_simp;(refine (QC1.out _ _ _ f70 f71).mono ?_;rintro e wn ⟨rfl,hbn⟩;exact ⟨_,rfl,hR _ _ hbn rfl⟩))
   case o3=>(refine oQ rfl ?_;intro ρ w1 R hcon hfn hρ hb hp hR;have e72:ρ (.tmp 72)=_:=hp 2 72 rfl rfl;clear hρ hp;unfold OpRun;go_simp;exact hR _ _ (Below.refl _ _) rfl)
   case o4=>(refine oQ rfl ?_;intro ρ w1 R hcon hfn hρ hb hp hR;have e73:ρ (.tmp 73)=_:=hp 3 73 rfl rfl;clear hρ hp;unfold OpRun;go_simp;exact hR _ _ (Below.refl _ _) rfl)
   case after=>
    intro u wn hb hf
    have e69:u 69=_:=hf 4 69 (by omega) rfl
    clear hf
    simp only [putAll,Act.put,List.setIfInBounds_toArray,List.set_cons_zero,List.set_cons_succ,List.drop_succ_cons,List.drop_zero,List.drop_nil]
    rw [e69]
    have yb4:=below_trans yb3 hb
    have HZ:=hid (show QVr 49 3 wn w.heap.size D1 400000 200000 from by
     obtain ⟨n,s,k,h1,h2⟩:=z83.below hb
     exact ⟨n,s,k,h1,h2.weak HWK.out.1 HWK.out.2⟩)
    go_wp2_with (go_at_call 42;(with_reducible refine (BB.out _ _ HZ.out).mono ?_);rintro en w5 ⟨X,hX,rfl,hb5⟩;have HX:=hid hX;clear hX)
    go_ret2
    exact ⟨X,true,HSX.out X HX.out,rfl,below_trans yb4 hb5⟩
end Go.Proofs.YtehhegbkahnhgaaGreatDoor
