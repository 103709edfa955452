/- ExpoExps: what the proof leans on, part 33 (Eh8 Lj5 Frame2 Tb). -/
import Derived.WalkKit
import Derived.ReadAgain
import Derived.ChangeReads
import Derived.Lib.SmallJoins
import Derived.ChangeSlices
import Derived.OpenShut
import Derived.Test.YtehhegbkahnhgaaGreatDoorRows
import Derived.LaidMore
import Derived.Lib.LaidTab
import Derived.LaidLaws
import Derived.SevenTiedAt
import Derived.Stop.Joined
import Derived.Test.YtehhegbkahnhgaaGreatDoorKExpoExps2
import Derived.Test.YtehhegbkahnhgaaGreatDoorKExpoExps14
import Derived.Test.YtehhegbkahnhgaaGreatDoorKExpoExps22
import Derived.Test.YtehhegbkahnhgaaGreatDoorKExpoExps30
import Derived.Test.YtehhegbkahnhgaaGreatDoorKExpoExps32
set_option linter.unusedVariables false
set_option linter.unusedSimpArgs false
namespace Go.Proofs.YtehhegbkahnhgaaGreatDoor
open Go.RowKit Go.Ulp
set_option maxHeartbeats 4000000
set_option maxRecDepth 100000
theorem expoExpm1_any (x:Int) (h0:0≤x) (h1:x<18446744073709551616) (mode:Int) (w:World) (hT:Tab 0 w):
 Calls Tryz.prog 12 #[.int .u64 x,.int .i64 mode] w (RetE9 w mode (XmSaid x mode)):=by
 have KN:=hid (fun w=>known_any mode w)
 have CX:=hid (fun w=>class_any x h0 h1 w)
 cases hk:knownB mode
 ·rw [hk] at KN
  have HN:=hid (show ∀(en:Ending) (w':World),RetX3 w 0 false 1 en w'→RetE9 w mode (XmSaid x mode) en w' from fun en w' h=>RetE9.no hk h)
  clear hk hT
  go_enter Tryz.func12,Tryz.ntmps12
  go_wp2_with (go_at_call 17;(with_reducible refine (KN.out _).mono ?_);rintro en w1 ⟨rfl,rfl⟩)
  refine bodyPost_ret (by simp [results,Tryz.results12,go_sem];try rfl) rfl ?_
  exact HN.out _ _ ⟨rfl,Below.refl _ _⟩
 ·rw [hk] at KN
  have HY:=hid (fun (en:Ending) (w':World) (X:Int) (ch:Bool) (hs:XmSaid x mode X ch) (h:RetX3 w X ch 0 en w')=>RetE9.yes hk hs h)
  obtain ⟨m0,m1⟩:=known_bd hk
  have VX:=hid (fun w t=>value_any x h0 h1 w t)
  have HT:=hid hT
  clear hk hT
  by_cases c5:classOf x=5
  ·have HS:=hid (show ∀X ch,XmSaid x mode X ch=(X=9221120237041090560∧ch=false) from fun X ch=>by unfold XmSaid;rw [if_pos c5])
   rw [c5] at CX
   clear c5 VX
   go_enter Tryz.func12,Tryz.ntmps12
   go_wp2_with (first
    |(go_at_call 17;(with_reducible refine (KN.out _).mono ?_);rintro en w1 ⟨rfl,rfl⟩)
    |(go_at_call 18;(with_reducible refine (CX.out _).mono ?_);rintro en w1 ⟨rfl,rfl⟩))
   refine bodyPost_ret (by simp [results,Tryz.results12,go_sem];try rfl) rfl ?_
   exact HY.out _ _ _ _ (by rw [HS.out];first|exact ⟨rfl,rfl⟩|exact ⟨by first|rfl|assumption,rfl⟩) ⟨rfl,Below.refl _ _⟩
  have z5:(classOf x==5)=false:=beq_eq_false_iff_ne.2 c5
  by_cases c1:classOf x=1
  ·have HS:=hid (show ∀X ch,XmSaid x mode X ch=(X=x∧ch=false) from fun X ch=>by unfold XmSaid;rw [if_neg c5,if_pos (.inl c1)])
   rw [c1] at CX
   clear c5 VX z5 c1
   go_enter Tryz.func12,Tryz.ntmps12
   go_wp2_with (first
    |(go_at_call 17;(with_reducible refine (KN.out _).mono ?_);rintro en w1 ⟨rfl,rfl⟩)
    |(go_at_call 18;(with_reducible refine (CX.out _).mono ?_);rintro en w1 ⟨rfl,rfl⟩))
   refine bodyPost_ret (by simp [results,Tryz.results12,go_sem];try rfl) rfl ?_
   exact HY.out _ _ _ _ (by rw [HS.out];first|exact ⟨rfl,rfl⟩|exact ⟨by first|rfl|assumption,rfl⟩) ⟨rfl,Below.refl _ _⟩
  have z1:(classOf x==1)=false:=beq_eq_false_iff_ne.2 c1
  by_cases ci:x=9218868437227405312
  ·have HS:=hid (show ∀X ch,XmSaid x mode X ch=(X=x∧ch=false) from fun X ch=>by unfold XmSaid;rw [if_neg c5,if_pos (.inr ci)])
   have zi:(x==9218868437227405312)=true:=beq_iff_eq.2 ci
   clear c1 c5 VX ci
   generalize classOf x=k at *
   go_enter Tryz.func12,Tryz.ntmps12
   go_wp2_with (first
    |(go_at_call 17;(with_reducible refine (KN.out _).mono ?_);rintro en w1 ⟨rfl,rfl⟩)
    |(go_at_call 18;(with_reducible refine (CX.out _).mono ?_);rintro en w1 ⟨rfl,rfl⟩))
   refine bodyPost_ret (by simp [results,Tryz.results12,go_sem];try rfl) rfl ?_
   exact HY.out _ _ _ _ (by rw [HS.out];first|exact ⟨rfl,rfl⟩|exact ⟨by first|rfl|assumption,rfl⟩) ⟨rfl,Below.refl _ _⟩
  have zi:(x==9218868437227405312)=false:=beq_eq_false_iff_ne.2 ci
  have n1: ¬(classOf x=1∨x=9218868437227405312):=by rintro (h|h);exact c1 h;exact ci h
  by_cases cm:x=18442240474082181120
  ·have HS:=hid (show ∀X ch,XmSaid x mode X ch=(X=13830554455654793216∧ch=false) from fun X ch=>by unfold XmSaid;rw [if_neg c5,if_neg n1,if_pos cm])
   have zm:(x==18442240474082181120)=true:=beq_iff_eq.2 cm
   clear c1 c5 VX ci cm n1
   generalize classOf x=k at *
   go_enter Tryz.func12,Tryz.ntmps12
   go_wp2_with (first
    |(go_at_call 17;(with_reducible refine (KN.out _).mono ?_);rintro en w1 ⟨rfl,rfl⟩)
    |(go_at_call 18;(with_reducible refine (CX.out _).mono ?_);rintro en w1 ⟨rfl,rfl⟩))
   refine bodyPost_ret (by simp [results,Tryz.results12,go_sem];try rfl) rfl ?_
   exact HY.out _ _ _ _ (by rw [HS.out];first|exact ⟨rfl,rfl⟩|exact ⟨by first|rfl|assumption,rfl⟩) ⟨rfl,Below.refl _ _⟩
  have zm:(x==18442240474082181120)=false:=beq_eq_false_iff_ne.2 cm
  have fnz:=fv_nz x h0 h1 c1
  obtain ⟨-,b1,b2,b3⟩:=fv_bd x h0 h1
  have hl:(limbs (fv x).1.natAbs).length≤10:=len_le (Nat.le_of_lt b1) (by omega)
  have TP:=hid (fun v w hv=>top9_any v (fv x) w hv (by omega) ⟨by omega,by omega⟩)
  have HS0:=hid (show ∀X ch,XmSaid x mode X ch=if topD (fv x)< -60 then X=bsX (fv x) 1 mode∧ch=bsC (fv x) 1 mode else if 6≤topD (fv x)∧(fv x).1<0 then X=bsX (negD (nrm 1 0)) 1 mode∧ch=bsC (negD (nrm 1 0)) 1 mode else if 10≤topD (fv x) then X=bigX mode∧ch=true else ExR (ngD (fv x)) (dyQ (fv x).1.natAbs (fv x).2) true mode X∧ch=true from fun X ch=>by unfold XmSaid;rw [if_neg c5,if_neg n1,if_neg cm])
  have XO:=fun h=>xp_ok fnz b1 ⟨b2,b3⟩ h
  have BS:=hid (fun v w hv=>bsd9_any v (fv x) 1 w b1 ⟨by omega,by omega⟩ hv)
  have NU:=hid (fun a c w h=>bsn9_any (fv x) 1 mode a c w b1 ⟨by omega,by omega⟩ (.inr rfl) h)
  clear c1 c5 ci cm b1 b2 b3 hl n1
  generalize classOf x=k at *
  generalize fv x=D at *
  by_cases ct:topD D< -60
  ·have HS:=hid (show ∀X ch,XmSaid x mode X ch=(X=bsX D 1 mode∧ch=bsC D 1 mode) from fun X ch=>by rw [HS0.out,if_pos ct])
   clear XO fnz HS0
   generalize bsX D 1 mode=RX at *
   generalize bsC D 1 mode=RC at *
   generalize besNeg (decide (D.1<0)) D.1.natAbs 1=bn at *
   generalize besM (decide (D.1<0)) D.1.natAbs 1=bm at *
   generalize besE D.1.natAbs D.2 1=be at *
   generalize topD D=tp at *
   go_enter Tryz.func12,Tryz.ntmps12
   go_upto_region 10 with (first
    |(go_at_call 17;(with_reducible refine (KN.out _).mono ?_);rintro en w1 ⟨rfl,rfl⟩)
    |(go_at_call 18;(with_reducible refine (CX.out _).mono ?_);rintro en w1 ⟨rfl,rfl⟩)
    |(go_at_call 20;(with_reducible refine (VX.out _ HT.out).mono ?_);rintro en w2 ⟨v2,rfl,⟨a2,c2,rfl,hN2⟩,hb2⟩))
   refine wp_wld9 (fun WW=>Below w.heap.size w WW∧DV 38 WW w2.heap.size D) ⟨below_trans hb2 (below_alloc _ _),⟨a2,c2,QL.made rfl,hN2.below (below_alloc _ _)⟩⟩ ?_
   obtain ⟨g7,hg7⟩: ∃g,g=w2.heap.size:=⟨_,rfl⟩
   rw [←hg7]
   clear hN2 hb2 hg7
   intro W2 ⟨yb2,z7⟩
   obtain ⟨a7,c7,⟨⟨j0,j1,-⟩,j2,-⟩,n7⟩:=id z7
   have v7:VD W2 D (.agg #[.bool (decide (D.1<0)),.slice a7 (limbs D.1.natAbs).length c7,.int .i64 D.2]):=⟨a7,c7,rfl,n7⟩
   go_upto_region 11 with (go_at_call 21;(with_reducible refine (TP.out _ _ v7).mono ?_);rintro en w3 ⟨rfl,hb3⟩;obtain ⟨a8,c8,⟨⟨i0,i1,-⟩,i2,-⟩,n8⟩:=z7.below hb3;skip)
   refine wp_wld9 (fun WW=>Below w.heap.size w WW∧DV 38 WW g7 D) ⟨below_trans yb2 hb3,z7.below hb3⟩ ?_
   clear i0 i1 i2 n8 hb3 yb2 z7 v7 j0 j1 j2 n7
   try clear hng
   intro W2 ⟨yb2,z7⟩
   obtain ⟨a7,c7,⟨⟨j0,j1,-⟩,j2,-⟩,n7⟩:=id z7
   have v7:VD W2 D (.agg #[.bool (decide (D.1<0)),.slice a7 (limbs D.1.natAbs).length c7,.int .i64 D.2]):=⟨a7,c7,rfl,n7⟩
   go_wp2_with (first
    |(go_at_call 23;(with_reducible refine (BS.out _ _ v7).mono ?_);rintro en w4 ⟨a4,c4,rfl,hN4,hb4⟩)
    |(go_at_call 22;(with_reducible refine (NU.out _ _ _ hN4).mono ?_);rintro en w5 ⟨rfl,hb5⟩))
   refine bodyPost_ret (by simp [results,Tryz.results12,go_sem];try rfl) rfl ?_
   exact HY.out _ _ RX RC (by rw [HS.out];exact ⟨rfl,rfl⟩) ⟨rfl,below_trans (below_trans yb2 hb4) hb5⟩
  ·clear BS NU
   by_cases cs:6≤topD D∧D.1<0
   ·obtain ⟨cg,cn⟩:=cs
    have HS:=hid (show ∀X ch,XmSaid x mode X ch=(X=bsX (negD (nrm 1 0)) 1 mode∧ch=bsC (negD (nrm 1 0)) 1 mode) from fun X ch=>by rw [HS0.out,if_neg ct,if_pos ⟨cg,cn⟩])
    have BS:=hid (fun v w hv=>bsd9_any v (negD (nrm 1 0)) 1 w (by decide) (by decide) hv)
    have NU:=hid (fun a c w h=>bsn9_any (negD (nrm 1 0)) 1 mode a c w (by decide) (by decide) (.inr rfl) h)
    have ON:=hid (fun w t=>one9_any w t)
    have OP:=hid (fun v w hv=>opp_any v (nrm 1 0) w hv (by decide))
    have HNG:=hid (decide_eq_true cn)
    clear XO fnz HS0 cn
    generalize bsX (negD (nrm 1 0)) 1 mode=RX at *
    generalize bsC (negD (nrm 1 0)) 1 mode=RC at *
    generalize besNeg (decide ((negD (nrm 1 0)).1<0)) (negD (nrm 1 0)).1.natAbs 1=bn at *
    generalize besM (decide ((negD (nrm 1 0)).1<0)) (negD (nrm 1 0)).1.natAbs 1=bm at *
    generalize besE (negD (nrm 1 0)).1.natAbs (negD (nrm 1 0)).2 1=be at *
    generalize negD (nrm 1 0)=J1 at *
    generalize nrm 1 0=I1 at *
    generalize topD D=tp at *
    go_enter Tryz.func12,Tryz.ntmps12
    go_upto_region 10 with (first
     |(go_at_call 17;(with_reducible refine (KN.out _).mono ?_);rintro en w1 ⟨rfl,rfl⟩)
     |(go_at_call 18;(with_reducible refine (CX.out _).mono ?_);rintro en w1 ⟨rfl,rfl⟩)
     |(go_at_call 20;(with_reducible refine (VX.out _ HT.out).mono ?_);rintro en w2 ⟨v2,rfl,⟨a2,c2,rfl,hN2⟩,hb2⟩))
    refine wp_wld9 (fun WW=>Below w.heap.size w WW∧DV 38 WW w2.heap.size D) ⟨below_trans hb2 (below_alloc _ _),⟨a2,c2,QL.made rfl,hN2.below (below_alloc _ _)⟩⟩ ?_
    obtain ⟨g7,hg7⟩: ∃g,g=w2.heap.size:=⟨_,rfl⟩
    rw [←hg7]
    clear hN2 hb2 hg7
    intro W2 ⟨yb2,z7⟩
    obtain ⟨a7,c7,⟨⟨j0,j1,-⟩,j2,-⟩,n7⟩:=id z7
    have v7:VD W2 D (.agg #[.bool (decide (D.1<0)),.slice a7 (limbs D.1.natAbs).length c7,.int .i64 D.2]):=⟨a7,c7,rfl,n7⟩
    go_upto_region 12 with (go_at_call 21;(with_reducible refine (TP.out _ _ v7).mono ?_);rintro en w3 ⟨rfl,hb3⟩;obtain ⟨a8,c8,⟨⟨i0,i1,-⟩,i2,-⟩,n8⟩:=z7.below hb3;skip)
    refine wp_wld9 (fun WW=>Below w.heap.size w WW∧DV 38 WW g7 D) ⟨below_trans yb2 hb3,z7.below hb3⟩ ?_
    clear i0 i1 i2 n8 hb3 yb2 z7 v7 j0 j1 j2 n7
    try clear hng
    intro W2 ⟨yb2,z7⟩
    obtain ⟨a7,c7,⟨⟨j0,j1,-⟩,j2,-⟩,n7⟩:=id z7
    have v7:VD W2 D (.agg #[.bool (decide (D.1<0)),.slice a7 (limbs D.1.natAbs).length c7,.int .i64 D.2]):=⟨a7,c7,rfl,n7⟩
    go_upto_region 13 with (go_at_call 21;(with_reducible refine (TP.out _ _ v7).mono ?_);rintro en w3 ⟨rfl,hb3⟩;obtain ⟨a8,c8,⟨⟨i0,i1,-⟩,i2,-⟩,n8⟩:=z7.below hb3;have hng:=HNG.out)
    refine wp_wld9 (fun WW=>Below w.heap.size w WW∧DV 38 WW g7 D) ⟨below_trans yb2 hb3,z7.below hb3⟩ ?_
    clear i0 i1 i2 n8 hb3 yb2 z7 v7 j0 j1 j2 n7
    try clear hng
    intro W2 ⟨yb2,z7⟩
    obtain ⟨a7,c7,⟨⟨j0,j1,-⟩,j2,-⟩,n7⟩:=id z7
    have v7:VD W2 D (.agg #[.bool (decide (D.1<0)),.slice a7 (limbs D.1.natAbs).length c7,.int .i64 D.2]):=⟨a7,c7,rfl,n7⟩
    clear j0 j1 j2 v7 n7
    have T2:=HT.out.below yb2
    go_wp2_with (first
     |(go_at_call 25;(with_reducible refine (ON.out _ T2).mono ?_);rintro en w3 ⟨v3,rfl,hv3,hb3⟩)
     |(go_at_call 51;(with_reducible refine (OP.out _ _ hv3).mono ?_);rintro en w4 ⟨v4,rfl,hv4,hb4⟩)
     |(go_at_call 23;(with_reducible refine (BS.out _ _ hv4).mono ?_);rintro en w5 ⟨a5,c5,rfl,hN5,hb5⟩)
     |(go_at_call 22;(with_reducible refine (NU.out _ _ _ hN5).mono ?_);rintro en w6 ⟨rfl,hb6⟩))
    refine bodyPost_ret (by simp [results,Tryz.results12,go_sem];try rfl) rfl ?_
    exact HY.out _ _ RX RC (by rw [HS.out];exact ⟨rfl,rfl⟩) ⟨rfl,below_trans (below_trans (below_trans (below_trans yb2 hb3) hb4) hb5) hb6⟩
   ·by_cases cg:10≤topD D
    ·have HS:=hid (show ∀X ch,XmSaid x mode X ch=(X=bigX mode∧ch=true) from fun X ch=>by rw [HS0.out,if_neg ct,if_neg cs,if_pos cg])
     have NU:=hid (fun a c w h=>hugeN_any mode a c w m0 m1 h)
     have TI:=hid (show ∀w,Calls Tryz.prog 47 #[.bool false] w (fun e w'=> ∃am cm,e=.returned (.agg #[.bool false,.slice am (limbs 1).length cm,.int .i64 2000])∧Ns .u32 w' am cm (limbs 1)∧Below w.heap.size w w') from fun w=>huge_any w)
     have HNG:=hid (decide_eq_false (fun h=>cs ⟨by omega,h⟩))
     have cg6:6≤topD D:=by omega
     clear XO fnz HS0 cs
     generalize limbs 1=L1 at *
     generalize bigX mode=RX at *
     generalize topD D=tp at *
     go_enter Tryz.func12,Tryz.ntmps12
     go_upto_region 10 with (first
      |(go_at_call 17;(with_reducible refine (KN.out _).mono ?_);rintro en w1 ⟨rfl,rfl⟩)
      |(go_at_call 18;(with_reducible refine (CX.out _).mono ?_);rintro en w1 ⟨rfl,rfl⟩)
      |(go_at_call 20;(with_reducible refine (VX.out _ HT.out).mono ?_);rintro en w2 ⟨v2,rfl,⟨a2,c2,rfl,hN2⟩,hb2⟩))
     refine wp_wld9 (fun WW=>Below w.heap.size w WW∧DV 38 WW w2.heap.size D) ⟨below_trans hb2 (below_alloc _ _),⟨a2,c2,QL.made rfl,hN2.below (below_alloc _ _)⟩⟩ ?_
     obtain ⟨g7,hg7⟩: ∃g,g=w2.heap.size:=⟨_,rfl⟩
     rw [←hg7]
     clear hN2 hb2 hg7
     intro W2 ⟨yb2,z7⟩
     obtain ⟨a7,c7,⟨⟨j0,j1,-⟩,j2,-⟩,n7⟩:=id z7
     have v7:VD W2 D (.agg #[.bool (decide (D.1<0)),.slice a7 (limbs D.1.natAbs).length c7,.int .i64 D.2]):=⟨a7,c7,rfl,n7⟩
     go_upto_region 12 with (go_at_call 21;(with_reducible refine (TP.out _ _ v7).mono ?_);rintro en w3 ⟨rfl,hb3⟩;obtain ⟨a8,c8,⟨⟨i0,i1,-⟩,i2,-⟩,n8⟩:=z7.below hb3;skip)
     refine wp_wld9 (fun WW=>Below w.heap.size w WW∧DV 38 WW g7 D) ⟨below_trans yb2 hb3,z7.below hb3⟩ ?_
     clear i0 i1 i2 n8 hb3 yb2 z7 v7 j0 j1 j2 n7
     try clear hng
     intro W2 ⟨yb2,z7⟩
     obtain ⟨a7,c7,⟨⟨j0,j1,-⟩,j2,-⟩,n7⟩:=id z7
     have v7:VD W2 D (.agg #[.bool (decide (D.1<0)),.slice a7 (limbs D.1.natAbs).length c7,.int .i64 D.2]):=⟨a7,c7,rfl,n7⟩
     go_upto_region 14 with (go_at_call 21;(with_reducible refine (TP.out _ _ v7).mono ?_);rintro en w3 ⟨rfl,hb3⟩;obtain ⟨a8,c8,⟨⟨i0,i1,-⟩,i2,-⟩,n8⟩:=z7.below hb3;have hng:=HNG.out)
     refine wp_wld9 (fun WW=>Below w.heap.size w WW∧DV 38 WW g7 D) ⟨below_trans yb2 hb3,z7.below hb3⟩ ?_
     clear i0 i1 i2 n8 hb3 yb2 z7 v7 j0 j1 j2 n7
     try clear hng
     intro W2 ⟨yb2,z7⟩
     obtain ⟨a7,c7,⟨⟨j0,j1,-⟩,j2,-⟩,n7⟩:=id z7
     have v7:VD W2 D (.agg #[.bool (decide (D.1<0)),.slice a7 (limbs D.1.natAbs).length c7,.int .i64 D.2]):=⟨a7,c7,rfl,n7⟩
     go_upto_region 15 with (go_at_call 21;(with_reducible refine (TP.out _ _ v7).mono ?_);rintro en w3 ⟨rfl,hb3⟩;obtain ⟨a8,c8,⟨⟨i0,i1,-⟩,i2,-⟩,n8⟩:=z7.below hb3;skip)
     refine wp_wld9 (fun WW=>Below w.heap.size w WW∧DV 38 WW g7 D) ⟨below_trans yb2 hb3,z7.below hb3⟩ ?_
     clear i0 i1 i2 n8 hb3 yb2 z7 v7 j0 j1 j2 n7
     try clear hng
     intro W2 ⟨yb2,z7⟩
     obtain ⟨a7,c7,⟨⟨j0,j1,-⟩,j2,-⟩,n7⟩:=id z7
     have v7:VD W2 D (.agg #[.bool (decide (D.1<0)),.slice a7 (limbs D.1.natAbs).length c7,.int .i64 D.2]):=⟨a7,c7,rfl,n7⟩
     go_wp2_with (first
      |(go_at_call 47;(with_reducible refine (TI.out _).mono ?_);rintro en w4 ⟨a4,c4,rfl,hN4,hb4⟩)
      |(go_at_call 22;(with_reducible refine (NU.out _ _ _ hN4).mono ?_);rintro en w5 ⟨rfl,hb5⟩))
     refine bodyPost_ret (by simp [results,Tryz.results12,go_sem];try rfl) rfl ?_
     exact HY.out _ _ RX true (by rw [HS.out];exact ⟨rfl,rfl⟩) ⟨rfl,below_trans (below_trans yb2 hb4) hb5⟩
    ·have HS:=hid (show ∀X ch,XmSaid x mode X ch=(ExR (ngD D) (dyQ D.1.natAbs D.2) true mode X∧ch=true) from fun X ch=>by rw [HS0.out,if_neg ct,if_neg cs,if_neg cg])
     have XK:=XO (by omega)
     have NE:=hid (fun g a c w zD h t=>xmNear_any D.1.natAbs D.2 (decide (D.1<0)) mode g a c w zD h XK m0 m1 t)
     have hmf: ∀fn first cap w,(Instr.makeFunc fn first cap).run Tryz.prog w=.ok (.func fn first cap) w:=fun _ _ _ _=>rfl
     rw [show ngD D=decide (D.1<0) from rfl] at HS
     have HCS:=hid cs
     clear XO fnz XK HS0 cs
     generalize dyQ D.1.natAbs D.2=y at *
     have cg2:topD D<10:=by omega
     have cg3:(decide ((10:Int)≤topD D))=false:=decide_eq_false cg
     by_cases c6:6≤topD D
     ·have HNG:=hid (decide_eq_false (fun h=>HCS.out ⟨c6,h⟩))
      clear HCS
      generalize topD D=tp at *
      go_enter Tryz.func12,Tryz.ntmps12
      go_upto_region 10 with (first
       |(go_at_call 17;(with_reducible refine (KN.out _).mono ?_);rintro en w1 ⟨rfl,rfl⟩)
       |(go_at_call 18;(with_reducible refine (CX.out _).mono ?_);rintro en w1 ⟨rfl,rfl⟩)
       |(go_at_call 20;(with_reducible refine (VX.out _ HT.out).mono ?_);rintro en w2 ⟨v2,rfl,⟨a2,c2,rfl,hN2⟩,hb2⟩))
      refine wp_wld9 (fun WW=>Below w.heap.size w WW∧DV 38 WW w2.heap.size D) ⟨below_trans hb2 (below_alloc _ _),⟨a2,c2,QL.made rfl,hN2.below (below_alloc _ _)⟩⟩ ?_
      obtain ⟨g7,hg7⟩: ∃g,g=w2.heap.size:=⟨_,rfl⟩
      rw [←hg7]
      clear hN2 hb2 hg7
      intro W2 ⟨yb2,z7⟩
      obtain ⟨a7,c7,⟨⟨j0,j1,-⟩,j2,-⟩,n7⟩:=id z7
      have v7:VD W2 D (.agg #[.bool (decide (D.1<0)),.slice a7 (limbs D.1.natAbs).length c7,.int .i64 D.2]):=⟨a7,c7,rfl,n7⟩
      go_upto_region 12 with (go_at_call 21;(with_reducible refine (TP.out _ _ v7).mono ?_);rintro en w3 ⟨rfl,hb3⟩;obtain ⟨a8,c8,⟨⟨i0,i1,-⟩,i2,-⟩,n8⟩:=z7.below hb3;skip)
      refine wp_wld9 (fun WW=>Below w.heap.size w WW∧DV 38 WW g7 D) ⟨below_trans yb2 hb3,z7.below hb3⟩ ?_
      clear i0 i1 i2 n8 hb3 yb2 z7 v7 j0 j1 j2 n7
      try clear hng
      intro W2 ⟨yb2,z7⟩
      obtain ⟨a7,c7,⟨⟨j0,j1,-⟩,j2,-⟩,n7⟩:=id z7
      have v7:VD W2 D (.agg #[.bool (decide (D.1<0)),.slice a7 (limbs D.1.natAbs).length c7,.int .i64 D.2]):=⟨a7,c7,rfl,n7⟩
      go_upto_region 14 with (go_at_call 21;(with_reducible refine (TP.out _ _ v7).mono ?_);rintro en w3 ⟨rfl,hb3⟩;obtain ⟨a8,c8,⟨⟨i0,i1,-⟩,i2,-⟩,n8⟩:=z7.below hb3;have hng:=HNG.out)
      refine wp_wld9 (fun WW=>Below w.heap.size w WW∧DV 38 WW g7 D) ⟨below_trans yb2 hb3,z7.below hb3⟩ ?_
      clear i0 i1 i2 n8 hb3 yb2 z7 v7 j0 j1 j2 n7
      try clear hng
      intro W2 ⟨yb2,z7⟩
      obtain ⟨a7,c7,⟨⟨j0,j1,-⟩,j2,-⟩,n7⟩:=id z7
      have v7:VD W2 D (.agg #[.bool (decide (D.1<0)),.slice a7 (limbs D.1.natAbs).length c7,.int .i64 D.2]):=⟨a7,c7,rfl,n7⟩
      go_upto_region 16 with (go_at_call 21;(with_reducible refine (TP.out _ _ v7).mono ?_);rintro en w3 ⟨rfl,hb3⟩;obtain ⟨a8,c8,⟨⟨i0,i1,-⟩,i2,-⟩,n8⟩:=z7.below hb3;skip)
      refine wp_wld9 (fun WW=>Below w.heap.size w WW∧DV 38 WW g7 D) ⟨below_trans yb2 hb3,z7.below hb3⟩ ?_
      clear i0 i1 i2 n8 hb3 yb2 z7 v7 j0 j1 j2 n7
      try clear hng
      intro W2 ⟨yb2,z7⟩
      obtain ⟨a7,c7,⟨⟨j0,j1,-⟩,j2,-⟩,n7⟩:=id z7
      have v7:VD W2 D (.agg #[.bool (decide (D.1<0)),.slice a7 (limbs D.1.natAbs).length c7,.int .i64 D.2]):=⟨a7,c7,rfl,n7⟩
      obtain ⟨a6,c6,z6,n6⟩:=id z7
      have T6:=HT.out.below yb2
      clear j0 j1 j2 v7 n7
      go_wp2_with (go_at_call 48;(with_reducible refine (NE.out _ _ _ _ z6 n6 T6).mono ?_);rintro en w4 ⟨X,hX,rfl,hb4⟩;have HX:=hid hX;clear hX)
      refine bodyPost_ret (by simp [results,Tryz.results12,go_sem];try rfl) rfl ?_
      exact HY.out _ _ X true (by rw [HS.out];exact ⟨HX.out,rfl⟩) ⟨rfl,below_trans yb2 hb4⟩
     ·have c63:(decide ((6:Int)≤topD D))=false:=decide_eq_false c6
      clear HCS
      generalize topD D=tp at *
      go_enter Tryz.func12,Tryz.ntmps12
      go_upto_region 10 with (first
       |(go_at_call 17;(with_reducible refine (KN.out _).mono ?_);rintro en w1 ⟨rfl,rfl⟩)
       |(go_at_call 18;(with_reducible refine (CX.out _).mono ?_);rintro en w1 ⟨rfl,rfl⟩)
       |(go_at_call 20;(with_reducible refine (VX.out _ HT.out).mono ?_);rintro en w2 ⟨v2,rfl,⟨a2,c2,rfl,hN2⟩,hb2⟩))
      refine wp_wld9 (fun WW=>Below w.heap.size w WW∧DV 38 WW w2.heap.size D) ⟨below_trans hb2 (below_alloc _ _),⟨a2,c2,QL.made rfl,hN2.below (below_alloc _ _)⟩⟩ ?_
      obtain ⟨g7,hg7⟩: ∃g,g=w2.heap.size:=⟨_,rfl⟩
      rw [←hg7]
      clear hN2 hb2 hg7
      intro W2 ⟨yb2,z7⟩
      obtain ⟨a7,c7,⟨⟨j0,j1,-⟩,j2,-⟩,n7⟩:=id z7
      have v7:VD W2 D (.agg #[.bool (decide (D.1<0)),.slice a7 (limbs D.1.natAbs).length c7,.int .i64 D.2]):=⟨a7,c7,rfl,n7⟩
      go_upto_region 12 with (go_at_call 21;(with_reducible refine (TP.out _ _ v7).mono ?_);rintro en w3 ⟨rfl,hb3⟩;obtain ⟨a8,c8,⟨⟨i0,i1,-⟩,i2,-⟩,n8⟩:=z7.below hb3;skip)
      refine wp_wld9 (fun WW=>Below w.heap.size w WW∧DV 38 WW g7 D) ⟨below_trans yb2 hb3,z7.below hb3⟩ ?_
      clear i0 i1 i2 n8 hb3 yb2 z7 v7 j0 j1 j2 n7
      try clear hng
      intro W2 ⟨yb2,z7⟩
      obtain ⟨a7,c7,⟨⟨j0,j1,-⟩,j2,-⟩,n7⟩:=id z7
      have v7:VD W2 D (.agg #[.bool (decide (D.1<0)),.slice a7 (limbs D.1.natAbs).length c7,.int .i64 D.2]):=⟨a7,c7,rfl,n7⟩
      go_upto_region 14 with (go_at_call 21;(with_reducible refine (TP.out _ _ v7).mono ?_);rintro en w3 ⟨rfl,hb3⟩;obtain ⟨a8,c8,⟨⟨i0,i1,-⟩,i2,-⟩,n8⟩:=z7.below hb3;skip)
      refine wp_wld9 (fun WW=>Below w.heap.size w WW∧DV 38 WW g7 D) ⟨below_trans yb2 hb3,z7.below hb3⟩ ?_
      clear i0 i1 i2 n8 hb3 yb2 z7 v7 j0 j1 j2 n7
      try clear hng
      intro W2 ⟨yb2,z7⟩
      obtain ⟨a7,c7,⟨⟨j0,j1,-⟩,j2,-⟩,n7⟩:=id z7
      have v7:VD W2 D (.agg #[.bool (decide (D.1<0)),.slice a7 (limbs D.1.natAbs).length c7,.int .i64 D.2]):=⟨a7,c7,rfl,n7⟩
      go_upto_region 16 with (go_at_call 21;(with_reducible refine (TP.out _ _ v7).mono ?_);rintro en w3 ⟨rfl,hb3⟩;obtain ⟨a8,c8,⟨⟨i0,i1,-⟩,i2,-⟩,n8⟩:=z7.below hb3;skip)
      refine wp_wld9 (fun WW=>Below w.heap.size w WW∧DV 38 WW g7 D) ⟨below_trans yb2 hb3,z7.below hb3⟩ ?_
      clear i0 i1 i2 n8 hb3 yb2 z7 v7 j0 j1 j2 n7
      try clear hng
      intro W2 ⟨yb2,z7⟩
      obtain ⟨a7,c7,⟨⟨j0,j1,-⟩,j2,-⟩,n7⟩:=id z7
      have v7:VD W2 D (.agg #[.bool (decide (D.1<0)),.slice a7 (limbs D.1.natAbs).length c7,.int .i64 D.2]):=⟨a7,c7,rfl,n7⟩
      obtain ⟨a6,c6,z6,n6⟩:=id z7
      have T6:=HT.out.below yb2
      clear j0 j1 j2 v7 n7
      go_wp2_with (go_at_call 48;(with_reducible refine (NE.out _ _ _ _ z6 n6 T6).mono ?_);rintro en w4 ⟨X,hX,rfl,hb4⟩;have HX:=hid hX;clear hX)
      refine bodyPost_ret (by simp [results,Tryz.results12,go_sem];try rfl) rfl ?_
      exact HY.out _ _ X true (by rw [HS.out];exact ⟨HX.out,rfl⟩) ⟨rfl,below_trans yb2 hb4⟩
theorem ent_ee1 (caps:Array Value) (w:World):Sem.run Tryz.prog (callFunc 13 caps) w=.ok (.enter 13 caps) w:=by
 simp [callFunc,go_sem,Tryz.func13,Tryz.f13]
theorem ent_ee2 (caps:Array Value) (w:World):Sem.run Tryz.prog (callFunc 15 caps) w=.ok (.enter 15 caps) w:=by
 simp [callFunc,go_sem,Tryz.func15,Tryz.f15]
theorem eeC1_any (g0 g1:Nat) (x:Int) (h0:0≤x) (h1:x<18446744073709551616) (mode:Int) (m0:0≤mode) (m1:mode≤4) (X:Int) (ch:Bool) (hs:XpSaid x mode X ch) (w:World) (c0:CV w g0 (.int .u64 x)) (c1:CV w g1 (.int .i64 mode)):
 Calls Tryz.prog 13 #[.pointer (some ⟨g0,0,none⟩),.pointer (some ⟨g1,0,none⟩)] w (RetX w X ch):=by
 have PO:=hid (show ∀w,Calls Tryz.prog 14 #[.int .u64 x,.int .i64 mode] w (RetX w X ch) from fun w=>(expBits_any x h0 h1 mode m0 m1 w).mono (fun en w' h=>by
  obtain ⟨Y,c,h1,h2⟩:=h
  obtain ⟨e1,e2⟩:=h1 X ch hs
  rw [←e1,←e2];exact h2))
 obtain ⟨k0,f0⟩:=c0
 obtain ⟨k1,f1⟩:=c1
 clear h0 h1 m0 m1 hs
 go_enter Tryz.func13,Tryz.ntmps13
 go_wp2_with (go_at_call 14;(with_reducible refine (PO.out _).mono ?_);rintro en w2 ⟨rfl,hb2⟩)
 refine bodyPost_ret (by simp [results,Tryz.results13,go_sem];try rfl) rfl ?_
 exact ⟨rfl,hb2⟩
theorem eeC2_any (g0 g1:Nat) (x:Int) (h0:0≤x) (h1:x<18446744073709551616) (mode:Int) (m0:0≤mode) (m1:mode≤4) (X:Int) (ch:Bool) (hs:XmSaid x mode X ch) (w:World) (c0:CV w g0 (.int .u64 x)) (c1:CV w g1 (.int .i64 mode)):
 Calls Tryz.prog 15 #[.pointer (some ⟨g0,0,none⟩),.pointer (some ⟨g1,0,none⟩)] w (RetX w X ch):=by
 have PO:=hid (show ∀w,Calls Tryz.prog 16 #[.int .u64 x,.int .i64 mode] w (RetX w X ch) from fun w=>(lessBits_any x h0 h1 mode m0 m1 w).mono (fun en w' h=>by
  obtain ⟨Y,c,h1,h2⟩:=h
  obtain ⟨e1,e2⟩:=h1 X ch hs
  rw [←e1,←e2];exact h2))
 obtain ⟨k0,f0⟩:=c0
 obtain ⟨k1,f1⟩:=c1
 clear h0 h1 m0 m1 hs
 go_enter Tryz.func15,Tryz.ntmps15
 go_wp2_with (go_at_call 16;(with_reducible refine (PO.out _).mono ?_);rintro en w2 ⟨rfl,hb2⟩)
 refine bodyPost_ret (by simp [results,Tryz.results15,go_sem];try rfl) rfl ?_
 exact ⟨rfl,hb2⟩
theorem expoExps_walk (x mode:Int) (hx:0≤x∧x<18446744073709551616) (hm: -9223372036854775808≤mode∧mode≤9223372036854775807) (W:World) (hT:Tab 0 W):
 Calls Tryz.prog 4 #[.int .u64 x,.int .i64 mode] W fun e w'=>e=.returned (.bool true)∧Below W.heap.size W w':=by
 have AD:=hid (fun w t=>expoExp_any x hx.1 hx.2 mode w t)
 have SB:=hid (fun w t=>expoExpm1_any x hx.1 hx.2 mode w t)
 have TD1:=hid (fun X ch caps w hC=>told_md X ch mode 13 caps w (ent_ee1 caps) hC)
 have TD2:=hid (fun X ch caps w hC=>told_md X ch mode 15 caps w (ent_ee2 caps) hC)
 have C1:=hid (fun X ch g0 g1 w (hs:knownB mode=true→XpSaid x mode X ch) (hk:knownB mode=true) c0 c1=>eeC1_any g0 g1 x hx.1 hx.2 mode (of_decide_eq_true hk).1 (of_decide_eq_true hk).2 X ch (hs hk) w c0 c1)
 have C2:=hid (fun X ch g0 g1 w (hs:knownB mode=true→XmSaid x mode X ch) (hk:knownB mode=true) c0 c1=>eeC2_any g0 g1 x hx.1 hx.2 mode (of_decide_eq_true hk).1 (of_decide_eq_true hk).2 X ch (hs hk) w c0 c1)
 have HT:=hid hT
 have hmf: ∀fn first cap w,(Instr.makeFunc fn first cap).run Tryz.prog w=.ok (.func fn first cap) w:=fun _ _ _ _=>rfl
 obtain ⟨W0,hW0⟩: ∃X,X=(W.alloc (.cells #[.int .u64 x] 22)).alloc (.cells #[.int .i64 mode] 3):=⟨_,rfl⟩
 have yb0:Below W.heap.size W W0:=by rw [hW0];(repeat' first|(with_reducible first|assumption|apply bR|apply bA|apply bN|apply bD|apply bL|apply bS)|refine bT ?_ (by assumption)|go_size)
 have c0:CV W0 W.heap.size (.int .u64 x):=by rw [hW0];exact CV.made.below (below_alloc _ _)
 have c1:CV W0 (W.heap.size+1) (.int .i64 mode):=by
  have h:=CV.made (w:=W.alloc (.cells #[.int .u64 x] 22)) (v:=.int .i64 mode) (t:=3)
  rw [hW0];simpa using h
 clear hT
 obtain ⟨x0,x1⟩:=hx
 go_enter Tryz.func4,Tryz.ntmps4
 go_upto_region 1 with fail
 rw [←hW0]
 obtain ⟨k0,f0⟩:=id c0
 obtain ⟨k1,f1⟩:=id c1
 clear hW0
 go_upto_region 2 with (go_at_call 11;(with_reducible refine (AD.out _ (HT.out.below yb0)).mono ?_);rintro en w1 ⟨X1,ch1,hs1,rfl,hb1⟩)
 have HS1:=hid hs1
 replace c0:=c0.below hb1
 replace c1:=c1.below hb1
 replace yb0:=below_trans yb0 hb1
 clear k0 f0 k1 f1 hb1 hs1
 obtain ⟨k0,f0⟩:=id c0
 obtain ⟨k1,f1⟩:=id c1
 go_upto_region 3 with (go_at_call 12;(with_reducible refine (SB.out _ (HT.out.below yb0)).mono ?_);rintro en w2 ⟨X2,ch2,hs2,rfl,hb2⟩)
 have HS2:=hid hs2
 have E0:=hid (c0.below hb2)
 have E1:=hid (c1.below hb2)
 replace yb0:=below_trans yb0 hb2
 clear k0 f0 k1 f1 hb2 c0 c1 AD SB hs2
 have TE1:=hid (fun caps w hC=>TD1.out X1 ch1 caps w hC)
 have TE2:=hid (fun caps w hC=>TD2.out X2 ch2 caps w hC)
 have D1:=hid (fun g0 g1 w hk c0 c1=>C1.out X1 ch1 g0 g1 w HS1.out hk c0 c1)
 have D2:=hid (fun g0 g1 w hk c0 c1=>C2.out X2 ch2 g0 g1 w HS2.out hk c0 c1)
 clear TD1 TD2 C1 C2 HS1 HS2
 obtain ⟨k3,f3⟩:=E1.out
 go_wp2_with (first
  |(go_at_call 7;(with_reducible refine (TE1.out _ _ (fun hk w' hb'=>D1.out _ _ w' hk (E0.out.below hb') (E1.out.below hb'))).mono ?_);rintro en w3 ⟨rfl,hb3⟩;obtain ⟨l3,m3⟩:=E1.out.below hb3)
  |(go_at_call 7;(with_reducible refine (TE2.out _ _ (fun hk w' hb'=>D2.out _ _ w' hk ((E0.out.below hb3).below hb') ((E1.out.below hb3).below hb'))).mono ?_);rintro en w4 ⟨rfl,hb4⟩))
 go_ret
 exact ⟨rfl,below_trans (below_trans yb0 hb3) hb4⟩
end Go.Proofs.YtehhegbkahnhgaaGreatDoor
namespace Go.Ulp
open Go.RowKit Go.WideShapes Go.ChangeShapes Go.Joins Go.Deep
section
variable {H:Type} {enc:TypeId×Value→H} {P:Program} {w:World} {base:Nat} {spare:Nat→Bool} {held:Bool}
theorem trodAll_still {w':World}: ∀ {ts:List TypeId} {vs:List Value} {ds:List (DataW H)} {ps:List MemPlace},DataW.TrodAll enc P w base spare held ts vs ds ps→(∀p∈ps,w.sameAt w' p)→DataW.TrodAll enc P w' base spare held ts vs ds ps
 | [],_,_,_,h,_=>by
   obtain ⟨rfl,rfl,rfl⟩:=trodAll_nil h
   exact trodAll_mk0
 |_::_,_,_,_,h,hs=>by
  obtain ⟨v,vs,d,ds,p,q,rfl,rfl,rfl,⟨n,h1⟩,h2⟩:=trodAll_cons h
  exact ⟨p,q,⟨n,DataW.trod_carry n _ _ _ h1 (fun x hx=>hs x (List.mem_append_left _ hx))⟩,trodAll_still h2 (fun x hx=>hs x (List.mem_append_right _ hx)),rfl⟩
theorem post_reads {f:Func} {s:ChangeSpec} {apart fresh handsOn:Bool} {W W':World} {args:Array Value} {v:Value} {ds:List (DataW H)} {p:List MemPlace}
 (hW:DataW.Whole enc P f.params.toList s.vars apart W args.toList ds [] (p++ [])) (hA:DataW.TrodAll enc P W 0 (fun _=>true) true f.params.toList args.toList ds p)
 (K:Kids P (· <P.types.size)) (full: ∀t e,t<P.types.size→P.underlying t=some (.slice e)→0<P.cellsOf e) (hts: ∀t∈f.params.toList,t<P.types.size)
 (hres: ∀b,DataW.TrodAll enc P W' b (fun _=>false) handsOn f.resultTypes.toList (v.resultList f.resultTypes.size) (s.fn H (ds++ [])).results [])
 (hargs:(s.fn H (ds++ [])).args=ds) (hvars:DataW.TrodVars enc P W' (fun b=>decide (b<W.heap.size)) s.vars (s.fn H (ds++ [])).vars [])
 (hb:Below W.heap.size W W'):s.post enc P f apart fresh handsOn false W args v W':=by
 have hlt: ∀x∈p,x.block<W.heap.size:=fun x hx=>hW.lt x (List.mem_append_left _ hx)
 have h1:=DataW.TrodAll.respare (spare':=fun b=>decide (b<W.heap.size)) K full hts hA (fun x hx=>by simpa using hlt x hx)
 have h2:=trodAll_still (w':=W') h1 (fun x hx=>hb.same (hlt x hx))
 refine ⟨ds,[],p++ [],[],p,[],hW,hres _,?_,hvars,hb.frame _,fun h=>by cases h⟩
 rw [hargs];exact h2
end
section
variable {H:Type} {enc:TypeId×Value→H} {P:Program} {w:World} {base:Nat} {spare:Nat→Bool} {held:Bool}
end
section
variable {H:Type} {enc:TypeId×Value→H} {P:Program} {w:World} {base:Nat} {spare:Nat→Bool} {held:Bool}
end
end Go.Ulp
namespace Go.Proofs.YtehhegbkahnhgaaGreatDoor
open Go Go.RowKit Go.Ulp Go.ChangeShapes Go.WideShapes Go.ChangeAt
def laidT : List (String × DataW Unit) := [("math/bits.deBruijn32tab", Rows.laid_math_bits_deBruijn32tab)]
theorem gTab : Tryz.prog.globalNamed "math/bits.deBruijn32tab" = some 0 := by kernel_rfl
def tabZ:List Int:=Lib.deBruijn32tab.map fun n:Nat=>(n:Int)
theorem laidT_eq : laidT = [("math/bits.deBruijn32tab", Lib.tabData .u8 tabZ)] := by rfl
theorem tab_of_laid {W:World} (h:laidMetH Tryz.prog laidT W):Tab 0 W:=by
 rw [MakeChecks.laidMetH_plain _ _ _ (by kernel_rfl),laidT_eq] at h
 have h1:=Lib.tabIs_of_head gTab (by kernel_rfl) Tryz.underlying131 Tryz.underlying5 (by kernel_rfl) (by kernel_rfl) h
 intro j hj
 have h2:=h1.cell gTab j (by unfold tabZ;rw [List.length_map];exact hj)
 rw [h2]
 unfold tabZ
 congr 2
 rw [List.getD_eq_getElem?_getD,List.getElem?_map,List.getElem?_eq_getElem hj,List.getD_eq_getElem?_getD,List.getElem?_eq_getElem hj];rfl
theorem door_met (os:Os) (args:Array Value):laidMetH Tryz.prog laidT ((World.doorLaid Tryz.prog 400 os).forCall (fun _ _=>0) ⟨#[],args,[]⟩).memory:=
 laidMetH_of_parts3 (fuel:=8) (laidMet_of_run' 8 (by kernel_rfl) (by kernel_rfl)) (by kernel_rfl) (by kernel_rfl)
end Go.Proofs.YtehhegbkahnhgaaGreatDoor
