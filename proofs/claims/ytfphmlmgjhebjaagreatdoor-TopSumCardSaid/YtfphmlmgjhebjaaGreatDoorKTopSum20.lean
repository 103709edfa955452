/- TopSum: what the proof leans on, part 20 (Hx1 Hx2 Hx3 Hx4 Hx5 Tp0 Tp1 Tp2 An Tw3). -/
import Derived.Test.YtfphmlmgjhebjaaGreatDoorKTopSum7
import Derived.Test.YtfphmlmgjhebjaaGreatDoorKTopSum9
import Derived.Test.YtfphmlmgjhebjaaGreatDoorKTopSum10
import Derived.Test.YtfphmlmgjhebjaaGreatDoorKTopSum11
import Derived.Test.YtfphmlmgjhebjaaGreatDoorKTopSum12
import Derived.Test.YtfphmlmgjhebjaaGreatDoorKTopSum13
import Derived.Test.YtfphmlmgjhebjaaGreatDoorKTopSum16
import Derived.Test.YtfphmlmgjhebjaaGreatDoorKTopSum19
set_option linter.unusedVariables false
set_option linter.unusedSimpArgs false
namespace Go.Ulp
open Go.RowKit
def hxP (p:Int):List UInt8:=112::(if p<0 then 45 else 43)::decD p.natAbs
def hxT (neg:Bool) (n m:Nat) (p:Int):List UInt8:=dsh neg (48::120::49::((if n=0 then [] else 46::hxD n m)++hxP p))
def hxZ (neg:Bool) (n:Nat):List UInt8:=dsh neg (48::120::48::((if n=0 then [] else 46::List.replicate n 48)++ [112,43,48]))
end Go.Ulp
namespace Go.Proofs.YtfphmlmgjhebjaaGreatDoor
open Go.RowKit Go.Ulp
set_option maxHeartbeats 2000000
set_option maxRecDepth 100000
theorem writeZ_any (x:Int) (h0:0≤x) (h1:x<18446744073709551616) (v:Value) (D:Dy) (n:Nat) (w:World) (hv:VD w D v) (hD:D.1=0) (hn:n≤1000):
 Calls Tryz.prog 97 #[.int .u64 x,v,.int .i64 (n:Int)] w fun e w'=>e=.returned (.string (bsOf (hxZ (negB x) n)))∧Below w.heap.size w w':=by
 obtain ⟨am,cm,rfl,hN⟩:=hv
 have hl0:(limbs D.1.natAbs).length=0:=by rw [hD];rfl
 rw [hl0]
 have RP:=hid (show ∀w,Calls Tryz.prog 70 #[.string (bsOf [48]),.int .i64 (n:Int)] w fun e w'=>e=.returned (.string (bsOf (List.replicate n 48)))∧Below w.heap.size w w' from fun w=>repeat_any 48 n (by omega) w)
 have zQ:QL 67 (w.alloc (.cells #[.bool (decide (D.1<0)),.slice am 0 cm,.int .i64 D.2] 67)) w.heap.size (decide (D.1<0)) (.slice am 0 cm) D.2:=QL.made rfl
 have yb0:=below_alloc w (.cells #[.bool (decide (D.1<0)),.slice am 0 cm,.int .i64 D.2] 67)
 obtain ⟨⟨j0,j1,-⟩,j2,-⟩:=zQ
 clear hD hN
 generalize decide (D.1<0)=neg at *
 obtain ⟨HH,hHH⟩: ∃H:List UInt8,H=if negB x=true then [45,48,120] else [48,120]:=⟨_,rfl⟩
 have hHl:HH.length≤3:=by rw [hHH];split<;>simp
 have a1:=add_bs (P:=Tryz.prog) HH [48] (by simp;omega)
 have a2:=add_bs (P:=Tryz.prog) [46] (List.replicate n 48) (by simp;omega)
 have a3:=add_bs (P:=Tryz.prog) (HH++ [48]) (46::List.replicate n 48) (by simp;omega)
 have a4:=add_bs (P:=Tryz.prog) (HH++ [48]++(46::List.replicate n 48)) [112,43,48] (by simp;omega)
 have a5:=add_bs (P:=Tryz.prog) (HH++ [48]) [112,43,48] (by simp;omega)
 have b1:(ByteArray.mk #[48])=bsOf [48]:=rfl
 have b2:(ByteArray.mk #[46])=bsOf [46]:=rfl
 have b3:(ByteArray.mk #[112,43,48])=bsOf [112,43,48]:=rfl
 have b4:(ByteArray.mk #[48,120])=bsOf [48,120]:=rfl
 have b5:(ByteArray.mk #[45,48,120])=bsOf [45,48,120]:=rfl
 have HR:=hid (show hxZ (negB x) n=if n=0 then HH++ [48]++ [112,43,48] else HH++ [48]++(46::List.replicate n 48)++ [112,43,48] by
  rw [hHH];unfold hxZ dsh
  cases negB x<;>by_cases h:n=0<;>simp [h])
 obtain ⟨RZ,hRZ⟩: ∃R,R=hxZ (negB x) n:=⟨_,rfl⟩
 rw [←hRZ] at HR ⊢
 generalize HH++ [48]++(46::List.replicate n 48)++ [112,43,48]=T4 at *
 generalize HH++ [48]++(46::List.replicate n 48)=T3 at *
 simp only [List.cons_append,List.nil_append] at a2
 generalize HH++ [48]++ [112,43,48]=T5 at *
 generalize HH++ [48]=T1 at *
 have HS:=hid (show (9223372036854775808≤x→bsOf HH=bsOf [45,48,120])∧(x<9223372036854775808→bsOf HH=bsOf [48,120]) from ⟨fun h=>by rw [hHH,if_pos (show negB x=true from decide_eq_true h)],fun h=>by rw [hHH,if_neg (by unfold negB;simp;omega)]⟩)
 clear hHH hRZ
 go_enter Tryz.func97,Tryz.ntmps97
 by_cases hx:9223372036854775808≤x
 ·have hs:x/9223372036854775808=1:=by omega
  have hb:=(HS.out.1 hx).symm
  by_cases hn0:n=0
  ·have hn1: ¬0<(n:Int):=by omega
   have hn2:decide (0<n)=false:=decide_eq_false (by omega)
   have HRR:=hid (show RZ=T5 by rw [HR.out,if_pos hn0])
   clear HR hn0 HS
   go_wp2_with fail
   go_ret
   exact ⟨by rw [HRR.out];rfl,yb0⟩
  ·have hn1:0<(n:Int):=by omega
   have hn2:decide (0<n)=true:=decide_eq_true (by omega)
   have HRR:=hid (show RZ=T4 by rw [HR.out,if_neg hn0])
   clear HR hn0 HS
   go_wp2_with (go_at_call 70;(with_reducible refine (RP.out _).mono ?_);rintro en w1 ⟨rfl,hb1⟩)
   go_ret
   exact ⟨by rw [HRR.out];rfl,below_trans yb0 hb1⟩
 ·have hs:x/9223372036854775808=0:=by omega
  have hb:=(HS.out.2 (by omega)).symm
  by_cases hn0:n=0
  ·have hn1: ¬0<(n:Int):=by omega
   have hn2:decide (0<n)=false:=decide_eq_false (by omega)
   have HRR:=hid (show RZ=T5 by rw [HR.out,if_pos hn0])
   clear HR hn0 HS
   go_wp2_with fail
   go_ret
   exact ⟨by rw [HRR.out];rfl,yb0⟩
  ·have hn1:0<(n:Int):=by omega
   have hn2:decide (0<n)=true:=decide_eq_true (by omega)
   have HRR:=hid (show RZ=T4 by rw [HR.out,if_neg hn0])
   clear HR hn0 HS
   go_wp2_with (go_at_call 70;(with_reducible refine (RP.out _).mono ?_);rintro en w1 ⟨rfl,hb1⟩)
   go_ret
   exact ⟨by rw [HRR.out];rfl,below_trans yb0 hb1⟩
theorem write_any (x:Int) (h0:0≤x) (h1:x<18446744073709551616) (v:Value) (D:Dy) (n:Nat) (p:Int) (s m:Nat) (w:World) (hv:VD w D v) (hD:D.1≠0) (hl:(limbs D.1.natAbs).length≤100) (he: -20000≤D.2∧D.2≤20000) (hn:n≤1000) (hp:p=(bl D.1.natAbs:Int)+D.2-1) (hs:(s:Int)=D.2-p+4*n) (hm:m=D.1.natAbs*2^s) (hT10:Tab10 w):
 Calls Tryz.prog 97 #[.int .u64 x,v,.int .i64 (n:Int)] w fun e w'=>e=.returned (.string (bsOf (hxT (negB x) n m p)))∧Below w.heap.size w w':=by
 obtain ⟨am,cm,rfl,hN⟩:=hv
 obtain ⟨M,hM⟩: ∃M,M=D.1.natAbs:=⟨_,rfl⟩
 have hM0:0<M:=by omega
 rw [←hM] at hN hl hp hm ⊢
 have hbl:=bl_len2 M 100 hl
 have LN:=hid (fun w h=>natLen_any am cm M w h (by omega))
 have LE:=hid (show ∀w,Ns .u32 w am cm (limbs M)→Calls Tryz.prog 172 #[.slice am (limbs M).length cm,.int .i64 (s:Int)] w fun e w'=>RetN w m e w' from fun w h=>by
  rw [hm];exact leftN_any am cm M s w h (by omega) (by omega))
 have hml:(limbs m).length≤3000:=by
  rw [hm]
  refine limbs_short1 (bl M+s) 3000 (by omega) _ ?_
  rw [Nat.pow_add]
  exact Nat.mul_lt_mul_of_pos_right (lt_bl M) (Nat.two_pow_pos s)
 obtain ⟨y,hy⟩: ∃y,y=D.2:=⟨_,rfl⟩
 obtain ⟨b,hb⟩: ∃b,b=bl M:=⟨_,rfl⟩
 rw [←hy] at he hp hs
 rw [←hb] at hp LN hbl
 have hlp:0<(limbs M).length:=(digs_len_pos 4294967296 (by omega) M).2 hM0
 have hlz:(((limbs M).length:Int)==0)=false:=beq_eq_false_iff_ne.2 (by omega)
 have HN:=hid hN
 have HY:=hid hy
 have zQ:QL 67 (w.alloc (.cells #[.bool (decide (D.1<0)),.slice am (limbs M).length cm,.int .i64 D.2] 67)) w.heap.size (decide (D.1<0)) (.slice am (limbs M).length cm) D.2:=QL.made rfl
 have yb0:=below_alloc w (.cells #[.bool (decide (D.1<0)),.slice am (limbs M).length cm,.int .i64 D.2] 67)
 rw [←hy] at zQ yb0 ⊢
 have HP:=hid hp
 have HSS:=hid hs
 have hpb: -30000≤p∧p≤30000:=by omega
 have hsb:s≤100000:=by omega
 have hpp:(b:Int)+y-1=p:=by omega
 have hss:y-p+4*(n:Int)=(s:Int):=by omega
 clear hN hM hb hm hy hM0 hlp hD hp hs
 generalize decide (D.1<0)=neg at *
 obtain ⟨HH,hHH⟩: ∃H:List UInt8,H=if negB x=true then [45,48,120] else [48,120]:=⟨_,rfl⟩
 have HS:=hid (show (9223372036854775808≤x→bsOf HH=bsOf [45,48,120])∧(x<9223372036854775808→bsOf HH=bsOf [48,120]) from ⟨fun h=>by rw [hHH,if_pos (show negB x=true from decide_eq_true h)],fun h=>by rw [hHH,if_neg (by unfold negB;simp;omega)]⟩)
 have HHH:=hid hHH
 have HT:=hid hT10
 clear hHH hT10
 go_enter Tryz.func97,Tryz.ntmps97
 go_upto_region 1 with fail
 refine wp_worldZ (fun WW=>Below w.heap.size w WW∧QL 67 WW w.heap.size neg (.slice am (limbs M).length cm) y∧Ns .u32 WW am cm (limbs M)) ⟨yb0,zQ,HN.out.below yb0⟩ ?_
 intro W1 ⟨y1,z1,hN1⟩
 obtain ⟨g1,hg1⟩: ∃g,g=w.heap.size:=⟨_,rfl⟩
 rw [←hg1] at z1 ⊢
 have H1:=hid z1
 have HN1:=hid hN1
 clear hg1 zQ yb0 HN hN1 z1
 go_upto_if 14 with fail
 go_cut [7] (fun s7 wx=>s7=.string (bsOf HH)∧wx=W1)
 case first=>
  by_cases hx:9223372036854775808≤x
  ·have hs:x/9223372036854775808=1:=by omega
   have hb:=hid (HS.out.1 hx)
   clear HS HHH
   go_wp2_with fail
   go_meet
   exact ⟨by rw [hb.out];rfl,rfl⟩
  ·have hs:x/9223372036854775808=0:=by omega
   have hb:=hid (HS.out.2 (by omega))
   clear HS HHH
   go_wp2_with fail
   go_meet
   exact ⟨by rw [hb.out];rfl,rfl⟩
 case rest=>
  obtain ⟨rfl,hwc⟩:=hcut
  subst hwc
  obtain ⟨⟨j0,j1,-⟩,j2,-⟩:=id H1.out
  have hHl:HH.length≤3:=by rw [HHH.out];split<;>simp
  have hw1:IntKind.i64.wrap ((b:Int)+y)=(b:Int)+y:=IntWalk.i64_in _ (by omega)
  have hw2:IntKind.i64.wrap p=p:=IntWalk.i64_in _ (by omega)
  go_upto_region 9 with fail
  refine wp_region_grow 8 [30,31,32,33,34,35,36,8] [Fact.is (.pointer (some ⟨g1,1,none⟩)),Fact.is (.slice am (limbs M).length cm),Fact.is (.int .i64 (b:Int)),Fact.is (.pointer (some ⟨g1,2,none⟩)),Fact.is (.int .i64 y),Fact.is (.int .i64 ((b:Int)+y)),Fact.is (.int .i64 p),Fact.is (.int .i64 p)] (by kernel_rfl) (by kernel_rfl) ⟨?o0,?o1,?o2,?o3,?o4,?o5,?o6,?o7,trivial⟩ ?after
  case o0=>(refine oQ rfl ?_;intro ρ w1 R hcon hfn hρ hb hp hR;have e4:ρ (.tmp 4)=.pointer (some ⟨g1,0,none⟩):=hρ.tmp 4 rfl;clear hρ hp;unfold OpRun;go_simp;exact hR _ _ (Below.refl _ _) rfl)
  case o1=>(refine oQ rfl ?_;intro ρ w1 R hcon hfn hρ hb hp hR;have e30:ρ (.tmp 30)=_:=hp 0 30 rfl rfl;obtain ⟨⟨j0,j1,-⟩,j2,-⟩:=H1.out.below hb;clear hρ hp;unfold OpRun;go_simp;exact hR _ _ (Below.refl _ _) rfl)
  case o2=>(refine oQ rfl ?_;intro ρ w1 R hcon hfn hρ hb hp hR;have e31:ρ (.tmp 31)=_:=hp 1 31 rfl rfl;clear hρ hp;unfold OpRun;go_simp;(refine (LN.out _ (HN1.out.below hb)).mono ?_;rintro e wn ⟨rfl,rfl⟩;exact ⟨_,rfl,hR _ _ (Below.refl _ _) rfl⟩))
  case o3=>(refine oQ rfl ?_;intro ρ w1 R hcon hfn hρ hb hp hR;have e4:ρ (.tmp 4)=.pointer (some ⟨g1,0,none⟩):=hρ.tmp 4 rfl;clear hρ hp;unfold OpRun;go_simp;exact hR _ _ (Below.refl _ _) rfl)
  case o4=>(refine oQ rfl ?_;intro ρ w1 R hcon hfn hρ hb hp hR;have e33:ρ (.tmp 33)=_:=hp 3 33 rfl rfl;obtain ⟨⟨j0,j1,-⟩,j2,-⟩:=H1.out.below hb;clear hρ hp;unfold OpRun;go_simp;exact hR _ _ (Below.refl _ _) rfl)
  case o5=>(refine oQ rfl ?_;intro ρ w1 R hcon hfn hρ hb hp hR;have e32:ρ (.tmp 32)=_:=hp 2 32 rfl rfl;have e34:ρ (.tmp 34)=_:=hp 4 34 rfl rfl;clear hρ hp;unfold OpRun;go_simp;exact hR _ _ (Below.refl _ _) rfl)
  case o6=>(refine oQ rfl ?_;intro ρ w1 R hcon hfn hρ hb hp hR;have e35:ρ (.tmp 35)=_:=hp 5 35 rfl rfl;clear hρ hp;unfold OpRun;go_simp;exact hR _ _ (Below.refl _ _) rfl)
  case o7=>(refine oQ rfl ?_;intro ρ w1 R hcon hfn hρ hb hp hR;have e36:ρ (.tmp 36)=_:=hp 6 36 rfl rfl;clear hρ hp;unfold OpRun;go_simp;exact hR _ _ (Below.refl _ _) rfl)
  case after=>
   intro u wn hb hf
   have e8:u 8=_:=hf 7 8 (by omega) rfl
   clear hf
   simp only [putAll,Act.put,List.setIfInBounds_toArray,List.set_cons_zero,List.set_cons_succ,List.drop_succ_cons,List.drop_zero,List.drop_nil]
   rw [e8]
   have y2:=below_trans y1 hb
   have H2:=hid (H1.out.below hb)
   have HN2:=hid (HN1.out.below hb)
   obtain ⟨W2,hW2⟩: ∃W,W=wn:=⟨_,rfl⟩
   subst hW2
   clear H1 HN1 y1 hb j0 j1 j2 hw1 hpp
   obtain ⟨⟨j0,j1,-⟩,j2,-⟩:=id H2.out
   have hw3:IntKind.i64.wrap (y-p)=y-p:=IntWalk.i64_in _ (by omega)
   have hw4:IntKind.i64.wrap (4*(n:Int))=4*(n:Int):=IntWalk.i64_in _ (by omega)
   have hw5:IntKind.i64.wrap (s:Int)=(s:Int):=IntWalk.i64_in _ (by omega)
   have a1:=add_bs (P:=Tryz.prog) HH [49] (by simp;omega)
   have b1:(ByteArray.mk #[49])=bsOf [49]:=rfl
   go_upto_if 50 with (go_at_call 172;(with_reducible refine (LE.out _ HN2.out).mono ?_);rintro en w3 ⟨a9,rfl,hN9,hb3⟩)
   obtain ⟨B0,hB0⟩: ∃B,B=HH++ [49]++(if n=0 then [] else [46]):=⟨_,rfl⟩
   have hB0l:B0.length≤5:=by rw [hB0];split<;>simp<;>omega
   have HB0:=hid hB0
   clear hB0
   go_cut [7] (fun s7 wx=>s7=.string (bsOf B0)∧wx=w3)
   case first=>as_aux_lemma=>
    by_cases hn0:n=0
    ·have hn1: ¬0<(n:Int):=by omega
     have hn2:decide (0<n)=false:=decide_eq_false (by omega)
     have HBB:=hid (show B0=HH++ [49] by rw [HB0.out,if_pos hn0];simp)
     clear hn0 HB0
     go_wp2_with fail
     go_meet
     exact ⟨by rw [HBB.out],rfl⟩
    ·have hn1:0<(n:Int):=by omega
     have hn2:decide (0<n)=true:=decide_eq_true (by omega)
     have HBB:=hid (show B0=HH++ [49]++ [46] by rw [HB0.out,if_neg hn0])
     have a2:=add_bs (P:=Tryz.prog) (HH++ [49]) [46] (by simp;omega)
     have b2:(ByteArray.mk #[46])=bsOf [46]:=rfl
     rw [←HBB.out] at a2
     clear hn0 HB0 HBB
     go_wp2_with fail
     go_meet
     exact ⟨rfl,rfl⟩
   case rest=>
    obtain ⟨rfl,hwc⟩:=hcut
    subst hwc
    have y4:=below_trans y2 hb3
    have hNm:=hN9
    have hmc:=hN9.1
    have HN9:=hid hN9
    have hml9:=hml
    obtain ⟨W3,hW3⟩: ∃W,W=wc:=⟨_,rfl⟩
    subst hW3
    clear hN9 hb3 H2 HN2 y2 j0 j1 j2 a1 b1 hHl hNm
    have hw6:IntKind.i64.wrap ((n:Int)-1)=(n:Int)-1:=IntWalk.i64_in _ (by omega)
    go_wp2_with fail
    go_loopw [7,10,11] (fun s7 s10 s11 wr=> ∃j:Int,-1≤j∧j<n∧s10=.int .i64 j∧s7=.string (bsOf (B0++(hxD n m).take (n-(j+1).toNat)))∧wr=W3) (fun _ s10 _ _=>(intOf s10+1).toNat)
    case atStart=>exact ⟨(n:Int)-1,by omega,by omega,rfl,by rw [show n-((n:Int)-1+1).toNat=0 by omega];simp,rfl⟩
    case round=>
     obtain ⟨j,hj1,hj2,rfl,rfl,rfl⟩:=hrel
     by_cases hj0:j<0
     ·have hcc: ¬0≤j:=by omega
      have hTT:=hid (show B0++(hxD n m).take (n-(j+1).toNat)=B0++hxD n m by
       rw [show n-(j+1).toNat=n by omega,List.take_of_length_le (by rw [hxD_len];omega)])
      rw [hTT.out]
      have hBl:(B0++hxD n m).length≤1005:=by rw [List.length_append,hxD_len];omega
      have HFI:=hid (show B0++hxD n m++hxP p=hxT (negB x) n m p by
       rw [HB0.out,HHH.out]
       unfold hxT dsh
       by_cases hn0:n=0
       ·rw [if_pos hn0,if_pos hn0,hn0]
        cases negB x<;>simp [hxD]
       ·rw [if_neg hn0,if_neg hn0]
        cases negB x<;>simp)
      obtain ⟨B1,hB1⟩: ∃B,B=B0++hxD n m:=⟨_,rfl⟩
      rw [←hB1] at hBl HFI ⊢
      obtain ⟨RT,hRT⟩: ∃R,R=hxT (negB x) n m p:=⟨_,rfl⟩
      rw [←hRT] at HFI
      have HRT:=hid hRT
      clear hRT
      have lDp:(decD p.natAbs).length≤6:=decD_len 5 _ (by omega)
      have IT:=hid (fun w t=>itoa_any p (by omega) (by omega) w t)
      have HT4:=hid (HT.out.below y4)
      clear hB1 HB0 HHH HP HSS hTT hj0 hj1 hj2 HS
      by_cases hp0:0≤p
      ·have hit:Lib.itoa p=decD p.natAbs:=by
        unfold Lib.itoa
        rw [if_neg (by omega)]
        congr 1
        omega
       have HFJ:=hid (show RT=B1++ [112,43]++decD p.natAbs by
        rw [←HFI.out];unfold hxP;rw [if_neg (by omega)];simp)
       rw [hit] at IT
       have a1:=add_bs (P:=Tryz.prog) B1 [112,43] (by simp;omega)
       have a2:=add_bs (P:=Tryz.prog) (B1++ [112,43]) (decD p.natAbs) (by simp;omega)
       have b1:(ByteArray.mk #[112,43])=bsOf [112,43]:=rfl
       rw [←HFJ.out] at a2
       clear HFI hit
       go_wp2_with (go_at_call 168;(with_reducible refine (IT.out _ HT4.out).mono ?_);rintro en w8 ⟨rfl,hb8⟩)
       go_ret
       exact ⟨by rw [←HRT.out];rfl,below_trans y4 hb8⟩
      ·have hit:Lib.itoa p=45::decD p.natAbs:=by
        unfold Lib.itoa
        rw [if_pos (by omega)]
       have HFJ:=hid (show RT=B1++ [112]++45::decD p.natAbs by
        rw [←HFI.out];unfold hxP;rw [if_pos (by omega)];simp)
       rw [hit] at IT
       have a1:=add_bs (P:=Tryz.prog) B1 [112] (by simp;omega)
       have a2:=add_bs (P:=Tryz.prog) (B1++ [112]) (45::decD p.natAbs) (by simp;omega)
       have b1:(ByteArray.mk #[112])=bsOf [112]:=rfl
       rw [←HFJ.out] at a2
       clear HFI hit
       go_wp2_with (go_at_call 168;(with_reducible refine (IT.out _ HT4.out).mono ?_);rintro en w8 ⟨rfl,hb8⟩)
       go_ret
       exact ⟨by rw [←HRT.out];rfl,below_trans y4 hb8⟩
     ·obtain ⟨i,rfl⟩:=Int.eq_ofNat_of_zero_le (show 0≤j by omega)
      have hST:=hxD_take n m i (by omega)
      obtain ⟨dg,hdg⟩: ∃d,d=m/16^i%16:=⟨_,rfl⟩
      have hd16:dg<16:=by omega
      have hLD:=limb_digit m i
      rw [←hdg] at hLD hST
      obtain ⟨k,hk⟩: ∃k,k=i/8:=⟨_,rfl⟩
      obtain ⟨r,hr⟩: ∃r,r=i%8:=⟨_,rfl⟩
      have e8:(i:Int)/8=(k:Int):=by omega
      have e9:(i:Int)%8=(r:Int):=by omega
      have hr8:r<8:=by omega
      rw [←hk,←hr] at hLD
      obtain ⟨lb9,hlb⟩: ∃l,l=(limbs m).getD k 0:=⟨_,rfl⟩
      rw [←hlb] at hLD
      have hlb2:lb9<4294967296:=by rw [hlb];exact (limbs_lim m).getD (by omega) _
      have hlh:=hxD_len n m
      rw [show ((i:Int)+1).toNat=i+1 by omega]
      have htk:((hxD n m).take (n-(i+1))).length≤1000:=by rw [List.length_take];omega
      obtain ⟨TK,hTK⟩: ∃X,X=(hxD n m).take (n-(i+1)):=⟨_,rfl⟩
      rw [←hTK] at hST htk ⊢
      have hA:=add_bs (P:=Tryz.prog) (B0++TK) [hxc dg] (by simp;omega)
      rw [List.append_assoc,←hST] at hA
      have HST:=hid (show (hxD n m).take (n-i)=(hxD n m).take (n-((i:Int)-1+1).toNat) by rw [show ((i:Int)-1+1).toNat=i by omega])
      have HLB:=hid hlb
      have HLD:=hid hLD
      have hwi:IntKind.i64.wrap ((i:Int)-1)=(i:Int)-1:=IntWalk.i64_in _ (by omega)
      clear hST hTK hlh hk hr hdg hlb hLD
      go_upto_if 63 with fail
      go_cut [11] (fun s11 wx=>s11=.int .u32 (lb9:Int)∧wx=wr)
      case first=>as_aux_lemma=>
       by_cases hkl:k<(limbs m).length
       ·obtain ⟨b9,o9,rfl,hc9⟩:=HN9.out.2.2 (by omega)
        have hcell:wr.cell? ⟨b9,o9+k,none⟩=some (.int .u32 (lb9:Int)):=by
         rw [HLB.out];exact hc9 k hkl
        have hk2:(k:Int)<((limbs m).length:Int):=by omega
        clear hc9
        go_wp2_with fail
        go_meet
        exact ⟨rfl,rfl⟩
       ·have hz:=hid (show lb9=0 by rw [HLB.out];exact getD_out _ _ (by omega))
        have hk2: ¬(k:Int)<((limbs m).length:Int):=by omega
        have hk3:decide (k<(limbs m).length)=false:=decide_eq_false hkl
        go_wp2_with fail
        go_meet
        exact ⟨by rw [hz.out];rfl,rfl⟩
      case rest=>
       obtain ⟨rfl,hwc⟩:=hcut
       subst hwc
       have hBA:bits .and .u32 ((lb9:Int)/2^(4*r)) 15=(dg:Int):=by
        have e1:(lb9:Int)/2^(4*r)=((lb9/2^(4*r):Nat):Int):=by rw [Int.natCast_ediv];simp
        rw [e1]
        have h:=and_mask_u32 (lb9/2^(4*r)) 4 (by omega) (Nat.lt_of_le_of_lt (Nat.div_le_self _ _) hlb2)
        rw [show (((2^4-1:Nat)):Int)=15 from rfl,show (2:Nat)^4=16 from rfl,HLD.out] at h
        exact h
       have hIX: ∀w,(Instr.index 9 (.string (ByteArray.mk #[48,49,50,51,52,53,54,55,56,57,97,98,99,100,101,102])) (.int .u32 (dg:Int))).run Tryz.prog w=.ok (.int .u8 ((hxc dg).toNat:Int)) w:=fun w=>by
        rw [run_index_string _ _ _ _ _ Tryz.underlying9,dif_pos ⟨by omega,by show (dg:Int)<16;omega⟩]
        have h8:(dg:Int).toNat=dg:=by omega
        simp only [h8,hx_get dg hd16]
       have hwc:wrap32 ((hxc dg).toNat:Int)=((hxc dg).toNat:Int):=IntWalk.wrap32_in _ (by have:=(hxc dg).toNat_lt;omega)
       have hEN:Utf8.encode ((hxc dg).toNat:Int)=bsOf [hxc dg]:=hx_enc dg hd16
       generalize (hxc dg).toNat=cn at *
       go_wp2_with fail
       go_roundw
       case rel=>exact ⟨(i:Int)-1,by omega,by omega,rfl,by rw [←HST.out];try rfl,by first|rfl|trivial⟩
       case measure=>first|(simp [intOf];done)|(simp [intOf];omega)
end Go.Proofs.YtfphmlmgjhebjaaGreatDoor
namespace Go.Ulp
open Go.RowKit
def hfD (D:Dy) (n:Nat) (mode:Int):Dy:=mplD D (hfK D-4*(n:Int)) mode
def hfM (E:Dy) (n:Nat):Nat:=E.1.natAbs*2^(E.2-hfK E+4*(n:Int)).toNat
def hfT (x:Int) (n:Nat) (mode:Int):List UInt8:=hxT (negB x) n (hfM (hfD (fv x) n mode) n) (hfK (hfD (fv x) n mode))
def hfN (D:Dy):Nat:=(bl D.1.natAbs-1+3)/4
theorem hfD_self (D:Dy) (n:Nat) (mode:Int) (hI:IsN D) (hn:hfN D≤n):hfD D n mode=D:=by
 have hKD:hfK D=(bl D.1.natAbs:Int)+D.2-1:=rfl
 unfold hfN at hn
 unfold hfD mplD mulK
 rw [if_pos (by rw [decide_eq_true_eq];omega),nrm_of_isN D hI]
theorem QW.zv {tq ti:TypeId} {w:World} {g:Nat} {D:Dy} {A T:Nat} {X:Int} {n:Nat} {ao:Option Addr} {cap:Nat} (h:QW tq ti w g D A T X n ao cap) (hN:Nz ti w ao cap (zl X)):ZV tq ti w g X:=⟨ao,cap,h.1.1,hN⟩
end Go.Ulp
namespace Go.Proofs.YtfphmlmgjhebjaaGreatDoor
open Go.RowKit Go.Ulp
set_option maxHeartbeats 2000000
set_option maxRecDepth 100000
end Go.Proofs.YtfphmlmgjhebjaaGreatDoor
namespace Go.Ulp
open Go.RowKit
theorem fv_isNh (x:Int):IsN (fv x):=nrm_isN _ _
theorem fv_small_h (x:Int) (h0:0≤x) (h1:x<18446744073709551616):(limbs (fv x).1.natAbs).length≤2∧ -1074≤(fv x).2∧(fv x).2≤1024:=by
 obtain ⟨-,h2,h3,h4⟩:=fv_bd x h0 h1
 exact ⟨limbs_short1 53 2 (by omega) _ h2,h3,h4⟩
end Go.Ulp
namespace Go.Proofs.YtfphmlmgjhebjaaGreatDoor
open Go.RowKit Go.Ulp
set_option maxHeartbeats 2000000
set_option maxRecDepth 100000
end Go.Proofs.YtfphmlmgjhebjaaGreatDoor
namespace Go.Ulp
open Go.RowKit
def hexTx (x:Int):List UInt8:=if classOf x=5 then [110,97,110] else if classOf x=4 then dsh (negB x) [105,110,102] else if (fv x).1=0 then dsh (negB x) [48,120,48,112,43,48] else hfT x (hfN (fv x)) 3
def Fact.hmp (D:Dy) (ch:Bool):Fact:=⟨fun v w=> ∃u,v=.tuple #[u,.bool ch]∧VD w D u,fun _ _ _ h hb=>by
 obtain ⟨u,h1,h2⟩:=h
 exact ⟨u,h1,h2.below hb⟩⟩
end Go.Ulp
namespace Go.Proofs.YtfphmlmgjhebjaaGreatDoor
open Go.RowKit Go.Ulp
set_option maxHeartbeats 2000000
set_option maxRecDepth 100000
theorem hexText_any (x:Int) (h0:0≤x) (h1:x<18446744073709551616) (w:World) (hT:Tab 1 w) (hT10:Tab10 w):
 Calls Tryz.prog 37 #[.int .u64 x] w fun e w'=>e=.returned (.string (bsOf (hexTx x)))∧Below w.heap.size w w':=by
 have CL:=hid (fun w=>class_any x h0 h1 w)
 have b1:(ByteArray.mk #[105,110,102])=bsOf [105,110,102]:=rfl
 have b2:(ByteArray.mk #[45,105,110,102])=bsOf [45,105,110,102]:=rfl
 have b3:(ByteArray.mk #[110,97,110])=bsOf [110,97,110]:=rfl
 by_cases c5:classOf x=5
 ·have HR:=hid (show hexTx x= [110,97,110] by unfold hexTx;rw [if_pos c5])
  rw [c5] at CL
  clear c5 h0 h1 hT hT10
  generalize hexTx x=T at *
  go_enter Tryz.func37,Tryz.ntmps37
  go_wp2_with (go_at_call 33;(with_reducible refine (CL.out _).mono ?_);rintro en w1 ⟨rfl,rfl⟩)
  go_ret
  exact ⟨by rw [HR.out];rfl,Below.refl _ _⟩
 by_cases c4:classOf x=4
 ·have HR:=hid (show hexTx x=dsh (negB x) [105,110,102] by unfold hexTx;rw [if_neg c5,if_pos c4])
  rw [c4] at CL
  by_cases hx:9223372036854775808≤x
  ·have hs:x/9223372036854775808=1:=by omega
   have HR2:=hid (show hexTx x= [45,105,110,102] by rw [HR.out,show negB x=true from decide_eq_true hx];rfl)
   clear c5 c4 HR hT hT10
   generalize hexTx x=T at *
   go_enter Tryz.func37,Tryz.ntmps37
   go_wp2_with (go_at_call 33;(with_reducible refine (CL.out _).mono ?_);rintro en w1 ⟨rfl,rfl⟩)
   go_ret
   exact ⟨by rw [HR2.out];rfl,Below.refl _ _⟩
  ·have hs:x/9223372036854775808=0:=by omega
   have HR2:=hid (show hexTx x= [105,110,102] by rw [HR.out,show negB x=false from decide_eq_false hx];rfl)
   clear c5 c4 HR hT hT10
   generalize hexTx x=T at *
   go_enter Tryz.func37,Tryz.ntmps37
   go_wp2_with (go_at_call 33;(with_reducible refine (CL.out _).mono ?_);rintro en w1 ⟨rfl,rfl⟩)
   go_ret
   exact ⟨by rw [HR2.out];rfl,Below.refl _ _⟩
 have hv:hasVal x=true:=by
  have a:=class_val x h0 h1
  have:classOf x≤5:=by unfold classOf;split<;>split<;>(try split)<;>omega
  unfold hasVal
  unfold absOf at a
  exact decide_eq_true (by omega)
 obtain ⟨d1,d2,d3⟩:=fv_small_h x h0 h1
 obtain ⟨-,d4,-⟩:=fv_bd x h0 h1
 have VA:=hid (fun w t=>value_any x h0 h1 w t)
 have hbl:=(bl_le (fv x).1.natAbs 53).2 d4
 obtain ⟨B,hB⟩: ∃B,B=max (bl (fv x).1.natAbs) 1:=⟨_,rfl⟩
 obtain ⟨n,hn⟩: ∃n,n=(B-1+3)/4:=⟨_,rfl⟩
 have WR:=hid (show ∀v w,VD w (fv x) v→Tab10 w→Calls Tryz.prog 97 #[.int .u64 x,v,.int .i64 (n:Int)] w fun e w'=>e=.returned (.string (bsOf (hexTx x)))∧Below w.heap.size w w' from fun v w hv9 ht=>by
  by_cases hz:(fv x).1=0
  ·have e:hexTx x=hxZ (negB x) n:=by
    have:n=0:=by rw [hn,hB,hz];rfl
    rw [this]
    unfold hexTx;rw [if_neg c5,if_neg c4,if_pos hz];rfl
   rw [e]
   exact writeZ_any x h0 h1 v (fv x) n w hv9 hz (by omega)
  ·have hbp:=(bl_pos (fv x).1.natAbs).2 (by omega)
   have hnN:n=hfN (fv x):=by rw [hn,hB];unfold hfN;congr 2;omega
   have hE:=hfD_self (fv x) n 3 (fv_isNh x) (by omega)
   have e:hexTx x=hxT (negB x) n (hfM (fv x) n) (hfK (fv x)):=by
    unfold hexTx;rw [if_neg c5,if_neg c4,if_neg hz,←hnN]
    unfold hfT;rw [hE]
   rw [e]
   have hKD:hfK (fv x)=(bl (fv x).1.natAbs:Int)+(fv x).2-1:=rfl
   have hs0:0≤(fv x).2-hfK (fv x)+4*(n:Int):=by omega
   exact write_any x h0 h1 v (fv x) n (hfK (fv x)) ((fv x).2-hfK (fv x)+4*(n:Int)).toNat (hfM (fv x) n) w hv9 hz (by omega) (by omega) (by omega) hKD (by omega) rfl ht)
 have LN:=hid (fun a c w h=>natLen_any a c (fv x).1.natAbs w h (by omega))
 generalize hexTx x=T at *
 generalize fv x=D at *
 obtain ⟨M,hM⟩: ∃M,M=D.1.natAbs:=⟨_,rfl⟩
 obtain ⟨b,hb9⟩: ∃b,b=bl M:=⟨_,rfl⟩
 rw [←hM] at LN hbl hB
 have HM:=hid hM
 clear hM
 rw [←hb9] at LN hbl hB
 have hmx:max (b:Int) 1=(B:Int):=by omega
 have hw1:IntKind.i64.wrap ((B:Int)-1)=(B:Int)-1:=IntWalk.i64_in _ (by omega)
 have hw2:IntKind.i64.wrap ((B:Int)-1+3)=(B:Int)-1+3:=IntWalk.i64_in _ (by omega)
 have hq:((B:Int)-1+3).tdiv 4=(n:Int):=by rw [Int.tdiv_eq_ediv_of_nonneg (by omega)];omega
 have hq2:((B:Int)-1+3)/4=(n:Int):=by omega
 have hwn:IntKind.i64.wrap (n:Int)=(n:Int):=IntWalk.i64_in _ (by omega)
 have h85:classOf x≠5:=c5
 generalize classOf x=c at *
 have HT:=hid hT
 have HT10:=hid hT10
 clear hT hT10 hv hb9 hB hn
 go_enter Tryz.func37,Tryz.ntmps37
 go_upto_region 9 with (first
  |(go_at_call 33;(with_reducible refine (CL.out _).mono ?_);rintro en w1 ⟨rfl,rfl⟩)
  |(go_at_call 96;(with_reducible refine (VA.out _ HT.out).mono ?_);rintro en w2 ⟨v3,rfl,⟨a3,c3,rfl,hN3⟩,hb2⟩))
 rw [←HM.out] at hN3 ⊢
 refine wp_worldZ (fun WW=>Below w.heap.size w WW∧QL 67 WW w2.heap.size (decide (D.1<0)) (.slice a3 (limbs M).length c3) D.2∧Ns .u32 WW a3 c3 (limbs M)) ⟨below_trans hb2 (below_alloc _ _),QL.made rfl,hN3.below (below_alloc _ _)⟩ ?_
 intro W1 ⟨y1,q3,n3⟩
 obtain ⟨g3,hg3⟩: ∃g,g=w2.heap.size:=⟨_,rfl⟩
 rw [←hg3] at q3 ⊢
 clear hg3 hN3 hb2 VA
 refine wp_region_grow 11 [15,16,17,18,19,20,21,22,23,24,2] [Fact.is (.int .u64 x),Fact.is (.agg #[.bool (decide (D.1<0)),.slice a3 (limbs M).length c3,.int .i64 D.2]),Fact.is (.pointer (some ⟨g3,1,none⟩)),Fact.is (.slice a3 (limbs M).length c3),Fact.is (.int .i64 (b:Int)),Fact.is (.int .i64 (B:Int)),Fact.is (.int .i64 ((B:Int)-1)),Fact.is (.int .i64 ((B:Int)-1+3)),Fact.is (.int .i64 (n:Int)),Fact.is (.string (bsOf T)),Fact.is (.string (bsOf T))] (by kernel_rfl) (by kernel_rfl) ⟨?o0,?o1,?o2,?o3,?o4,?o5,?o6,?o7,?o8,?o9,?o10,trivial⟩ ?after
 case o0=>(refine oQ rfl ?_;intro ρ w1 R hcon hfn hρ hb hp hR;have e0:ρ (.tmp 0)=.int .u64 x:=hρ.tmp 0 rfl;clear hρ hp;unfold OpRun;go_simp;exact hR _ _ (Below.refl _ _) rfl)
 case o1=>(refine oQ rfl ?_;intro ρ w1 R hcon hfn hρ hb hp hR;have e3:ρ (.tmp 3)=.pointer (some ⟨g3,0,none⟩):=hρ.tmp 3 rfl;obtain ⟨⟨j0,j1,-⟩,j2,-⟩:=q3.below hb;clear hρ hp;unfold OpRun;go_simp;exact hR _ _ (Below.refl _ _) rfl)
 case o2=>(refine oQ rfl ?_;intro ρ w1 R hcon hfn hρ hb hp hR;have e3:ρ (.tmp 3)=.pointer (some ⟨g3,0,none⟩):=hρ.tmp 3 rfl;clear hρ hp;unfold OpRun;go_simp;exact hR _ _ (Below.refl _ _) rfl)
 case o3=>(refine oQ rfl ?_;intro ρ w1 R hcon hfn hρ hb hp hR;have e17:ρ (.tmp 17)=_:=hp 2 17 rfl rfl;obtain ⟨⟨j0,j1,-⟩,j2,-⟩:=q3.below hb;clear hρ hp;unfold OpRun;go_simp;exact hR _ _ (Below.refl _ _) rfl)
 case o4=>(refine oQ rfl ?_;intro ρ w1 R hcon hfn hρ hb hp hR;have e18:ρ (.tmp 18)=_:=hp 3 18 rfl rfl;clear hρ hp;unfold OpRun;go_simp;(refine (LN.out _ _ _ (n3.below hb)).mono ?_;rintro e wn ⟨rfl,rfl⟩;exact ⟨_,rfl,hR _ _ (Below.refl _ _) rfl⟩))
 case o5=>(refine oQ rfl ?_;intro ρ w1 R hcon hfn hρ hb hp hR;have e19:ρ (.tmp 19)=_:=hp 4 19 rfl rfl;clear hρ hp;unfold OpRun;go_simp;exact hR _ _ (Below.refl _ _) rfl)
 case o6=>(refine oQ rfl ?_;intro ρ w1 R hcon hfn hρ hb hp hR;have e20:ρ (.tmp 20)=_:=hp 5 20 rfl rfl;clear hρ hp;unfold OpRun;go_simp;exact hR _ _ (Below.refl _ _) rfl)
 case o7=>(refine oQ rfl ?_;intro ρ w1 R hcon hfn hρ hb hp hR;have e21:ρ (.tmp 21)=_:=hp 6 21 rfl rfl;clear hρ hp;unfold OpRun;go_simp;exact hR _ _ (Below.refl _ _) rfl)
 case o8=>(refine oQ rfl ?_;intro ρ w1 R hcon hfn hρ hb hp hR;have e22:ρ (.tmp 22)=_:=hp 7 22 rfl rfl;clear hρ hp;unfold OpRun;go_simp;exact hR _ _ (Below.refl _ _) rfl)
 case o9=>(refine oQ rfl ?_;intro ρ w1 R hcon hfn hρ hb hp hR;have e15:ρ (.tmp 15)=_:=hp 0 15 rfl rfl;have e16:ρ (.tmp 16)=_:=hp 1 16 rfl rfl;have e23:ρ (.tmp 23)=_:=hp 8 23 rfl rfl;clear hρ hp;unfold OpRun;go_simp;(refine (WR.out _ _ ⟨a3,c3,by rw [←HM.out],by rw [←HM.out];exact n3.below hb⟩ (HT10.out.below (below_trans y1 hb))).mono ?_;rintro e wn ⟨rfl,hbn⟩;exact ⟨_,rfl,hR _ _ hbn rfl⟩))
 case o10=>(refine oQ rfl ?_;intro ρ w1 R hcon hfn hρ hb hp hR;have e24:ρ (.tmp 24)=_:=hp 9 24 rfl rfl;clear hρ hp;unfold OpRun;go_simp;exact hR _ _ (Below.refl _ _) rfl)
 case after=>
  intro u wn hb hf
  have e2:u 2=_:=hf 10 2 (by omega) rfl
  clear hf
  simp only [putAll,Act.put,List.setIfInBounds_toArray,List.set_cons_zero,List.set_cons_succ,List.drop_succ_cons,List.drop_zero,List.drop_nil]
  rw [e2]
  go_wp2_with fail
  go_ret
  exact ⟨rfl,below_trans y1 hb⟩
theorem lv_a (w:World) (hT:Tab 1 w):
 Calls Tryz.prog 34 #[.string ⟨#[48,46,49]⟩,.int .i64 0] w (RetNm w 4591870180066957722 true 0):=by
 have h:=number_val [48,46,49] 0 w ⟨by omega,by omega⟩ (by decide) (by decide) (by decide) (by decide) (by decide+kernel) (by decide+kernel) hT
 refine h.mono ?_
 rintro e w' ⟨M,x,ok,hr⟩
 obtain ⟨hM,sft,hs,SC⟩:=ok
 rw [show rdNum (dvl (rdD [48,46,49])) (rdD [48,46,49]).length (rdK [48,46,49])=1 by decide+kernel,show rdDen (rdD [48,46,49]).length (rdK [48,46,49])=10 by decide+kernel] at SC
 rw [show rdN [48,46,49]=false by decide+kernel] at hr
 obtain ⟨r1,r2⟩:=read_sg false M x 0 1074 1 10 sft 4591870180066957721 (by omega) (by omega) hM hs SC (by omega) (by decide+kernel) (.inr (by decide+kernel))
 rw [show rdA 1074 1 10 (if false=true then swM 0 else 0) ((4591870180066957721:Nat):Int)=(4591870180066957722,true) by decide+kernel] at r1 r2
 rw [r1,r2] at hr
 exact hr
theorem lv_b (w:World) (hT:Tab 1 w):
 Calls Tryz.prog 34 #[.string ⟨#[48,46,50]⟩,.int .i64 0] w (RetNm w 4596373779694328218 true 0):=by
 have h:=number_val [48,46,50] 0 w ⟨by omega,by omega⟩ (by decide) (by decide) (by decide) (by decide) (by decide+kernel) (by decide+kernel) hT
 refine h.mono ?_
 rintro e w' ⟨M,x,ok,hr⟩
 obtain ⟨hM,sft,hs,SC⟩:=ok
 rw [show rdNum (dvl (rdD [48,46,50])) (rdD [48,46,50]).length (rdK [48,46,50])=2 by decide+kernel,show rdDen (rdD [48,46,50]).length (rdK [48,46,50])=10 by decide+kernel] at SC
 rw [show rdN [48,46,50]=false by decide+kernel] at hr
 obtain ⟨r1,r2⟩:=read_sg false M x 0 1074 2 10 sft 4596373779694328217 (by omega) (by omega) hM hs SC (by omega) (by decide+kernel) (.inr (by decide+kernel))
 rw [show rdA 1074 2 10 (if false=true then swM 0 else 0) ((4596373779694328217:Nat):Int)=(4596373779694328218,true) by decide+kernel] at r1 r2
 rw [r1,r2] at hr
 exact hr
theorem lv_s (w:World) (hT:Tab 1 w):
 Calls Tryz.prog 39 #[.int .u64 4591870180066957722,.int .u64 4596373779694328218,.int .i64 0] w (RetX3 w 4599075939470750516 true 0):=by
 have h:=sumAdd_any 4591870180066957722 4596373779694328218 (by omega) (by omega) 0 w hT
 rw [show mdX 0 (sumX [4591870180066957722,4596373779694328218] 0)=4599075939470750516 by decide+kernel,show mdC 0 (sumC [4591870180066957722,4596373779694328218] 0)=true by decide+kernel,show mdE 0=0 by decide+kernel] at h
 exact h
theorem lv_h (w:World) (hT:Tab 1 w) (hT10:Tab10 w):
 Calls Tryz.prog 37 #[.int .u64 4599075939470750516] w fun e w'=>e=.returned (.string ⟨#[48,120,49,46,51,51,51,51,51,51,51,51,51,51,51,51,52,112,45,50]⟩)∧Below w.heap.size w w':=by
 have h:=hexText_any 4599075939470750516 (by omega) (by omega) w hT hT10
 rw [show hexTx 4599075939470750516= [48,120,49,46,51,51,51,51,51,51,51,51,51,51,51,51,52,112,45,50] by decide+kernel] at h
 exact h
theorem lv_d (w:World) (hT:Tab 1 w) (hT10:Tab10 w):
 Calls Tryz.prog 90 #[.int .u64 4599075939470750516] w fun e w'=>e=.returned (.tuple #[.string (bsOf [51,48,48,48,48,48,48,48,48,48,48,48,48,48,48,48,52]),.int .i64 (-17),.int .i64 0])∧Below w.heap.size w w':=by
 refine (shDigits_any 4599075939470750516 (by omega) (by omega) (by decide+kernel) (by decide+kernel) 1021 900719925474100 (by decide+kernel) (by decide+kernel) (by omega) (by omega) (-1) (by unfold IsDec;decide+kernel) (by omega) w hT hT10).mono ?_
 rintro e w' ⟨k,h1,h2,rfl,hb⟩
 have g: ∀j,j<16→shS (rkD ((1021*4503599627370496+900719925474100:Nat):Int)) 1021 900719925474100 j (-1)=false:=by decide+kernel
 have g2:shS (rkD ((1021*4503599627370496+900719925474100:Nat):Int)) 1021 900719925474100 16 (-1)=true:=by decide+kernel
 have hk:k=16:=by
  rcases Nat.lt_trichotomy k 16 with h|h|h
  ·have:=g k h;rw [h2] at this;cases this
  ·exact h
  ·have:=h1 16 h;rw [g2] at this;cases this
 subst hk
 refine ⟨?_,hb⟩
 rw [show stp (decD (shZ (rkD ((1021*4503599627370496+900719925474100:Nat):Int)) 1021 900719925474100 16 (-1)))= [51,48,48,48,48,48,48,48,48,48,48,48,48,48,48,48,52] by decide+kernel,show shX (rkD ((1021*4503599627370496+900719925474100:Nat):Int)) 1021 900719925474100 16 (-1)= -17 by decide+kernel]
theorem lv_t (w:World) (hT:Tab 1 w) (hT10:Tab10 w):
 Calls Tryz.prog 35 #[.int .u64 4599075939470750516] w fun e w'=>e=.returned (.string ⟨#[48,46,51,48,48,48,48,48,48,48,48,48,48,48,48,48,48,48,52]⟩)∧Below w.heap.size w w':=by
 have h:=shText_val 4599075939470750516 (by omega) (by omega) (by decide+kernel) (by decide+kernel) (by decide+kernel) [51,48,48,48,48,48,48,48,48,48,48,48,48,48,48,48,52] (-17) ⟨by decide,by decide⟩ ⟨by omega,by omega⟩ (fun w t t10=>lv_d w t t10) w hT hT10
 rw [show dsh (negB 4599075939470750516) (shT [51,48,48,48,48,48,48,48,48,48,48,48,48,48,48,48,52] (-17))= [48,46,51,48,48,48,48,48,48,48,48,48,48,48,48,48,48,48,52] by decide+kernel] at h
 exact h
end Go.Proofs.YtfphmlmgjhebjaaGreatDoor
namespace Go.Ulp
open Go.RowKit
def ErrZ (w:World) (g n:Nat):Prop:= ∀j,j<n→w.cell? ⟨g,j,none⟩=some (.int .i64 0)
theorem ErrZ.below {w w':World} {g n:Nat} (h:ErrZ w g n) (hb:Below w.heap.size w w'):ErrZ w' g n:=fun j hj=>
 (hb.cell (p:=⟨g,j,none⟩) (World.block_lt_of_cell? w _ (h j hj))).trans (h j hj)
theorem ErrZ.made3 {w:World} {t:TypeId}:ErrZ (w.alloc (.cells #[.int .i64 0,.int .i64 0,.int .i64 0] t)) w.heap.size 3:=by
 intro j hj
 rcases (show j=0∨j=1∨j=2 by omega) with e|e|e<;>subst e<;>(rw [World.cell?_alloc_at (hn:=rfl)];rfl)
end Go.Ulp
namespace Go.Proofs.YtfphmlmgjhebjaaGreatDoor
open Go.RowKit Go.Ulp
set_option maxHeartbeats 2000000
set_option maxRecDepth 100000
theorem topOk_any (g n cap:Nat) (w:World) (h:ErrZ w g n) (hn:n≤1000):
 Calls Tryz.prog 32 #[.slice (some ⟨g,0,none⟩) n cap] w fun e w'=>e=.returned (.bool true)∧Below w.heap.size w w':=by
 have H:=hid h
 clear h
 go_enter Tryz.func32,Tryz.ntmps32
 go_wp2_with fail
 go_loopw [7] (fun s7 wr=> ∃j:Nat,s7=.int .i64 (j:Int)∧j≤n∧Below w.heap.size w wr) (fun s7 _=>n-(intOf s7).toNat)
 case atStart=>exact ⟨0,rfl,by omega,Below.refl _ _⟩
 case round=>
  obtain ⟨j,rfl,hj,hb⟩:=hrel
  by_cases hjn:j<n
  ·have hc:=H.out.below hb j hjn
   have g1:(j:Int)<(n:Int):=by omega
   have wI:IntKind.i64.wrap ((j:Int)+1)=(j:Int)+1:=IntWalk.i64_in _ (by omega)
   go_wp2_with fail
   go_roundw
   case rel=>exact ⟨j+1,by go_num,by omega,hb⟩
   case measure=>simp [intOf];omega
  ·have g1: ¬(j:Int)<(n:Int):=by omega
   go_wp2_with fail
   go_ret
   exact ⟨rfl,hb⟩
theorem lives_any (w:World) (hT:Tab 1 w) (hT10:Tab10 w):
 Calls Tryz.prog 28 #[] w fun e w'=>e=.returned (.bool true)∧Below w.heap.size w w':=by
 have LA:=hid (fun w t=>lv_a w t)
 have LB:=hid (fun w t=>lv_b w t)
 have LS:=hid (fun w t=>lv_s w t)
 have LT:=hid (fun w t t10=>lv_t w t t10)
 have LH:=hid (fun w t t10=>lv_h w t t10)
 have HT:=hid hT
 have HT10:=hid hT10
 clear hT hT10
 have OK:=hid (fun g w (h:ErrZ w g 3)=>topOk_any g 3 3 w h (by omega))
 go_enter Tryz.func28,Tryz.ntmps28
 go_wp2_with (first
  |(go_at_call 34;first
   |((with_reducible refine (LA.out _ HT.out).mono ?_);rintro en w1 ⟨rfl,hb1⟩)
   |((with_reducible refine (LB.out _ (HT.out.below hb1)).mono ?_);rintro en w2 ⟨rfl,hb2⟩))
  |(go_at_call 39;(with_reducible refine (LS.out _ (HT.out.below (below_trans hb1 hb2))).mono ?_);rintro en w3 ⟨rfl,hb3⟩;have yb3:=below_trans (below_trans hb1 hb2) hb3)
  |(go_at_call 32;(with_reducible refine (OK.out _ _ ErrZ.made3).mono ?_);rintro en w4 ⟨rfl,hb4⟩;have yb4:=below_trans (below_trans yb3 (below_alloc _ _)) hb4)
  |(go_at_call 35;(with_reducible refine (LT.out _ (HT.out.below yb4) (HT10.out.below yb4)).mono ?_);rintro en w5 ⟨rfl,hb5⟩;have yb5:=below_trans yb4 hb5)
  |(go_at_call 37;(with_reducible refine (LH.out _ (HT.out.below yb5) (HT10.out.below yb5)).mono ?_);rintro en w6 ⟨rfl,hb6⟩))
 go_ret
 exact ⟨rfl,below_trans yb5 hb6⟩
end Go.Proofs.YtfphmlmgjhebjaaGreatDoor
namespace Go.Ulp
open Go.RowKit
theorem anyTo_iff (p:Int→Bool) (L:List Nat): ∀n,anyTo p L n=true↔ ∃j,j<n∧p (lb L j)=true
 |0=>⟨(fun h=>by cases h),(fun ⟨j,h,_⟩=>by omega)⟩
 |n+1=>by
  have h:=anyTo_iff p L n
  unfold anyTo
  rw [Bool.or_eq_true,h]
  constructor
  ·rintro (⟨j,h1,h2⟩|h2)
   ·exact ⟨j,by omega,h2⟩
   ·exact ⟨n,by omega,h2⟩
  ·rintro ⟨j,h1,h2⟩
   by_cases e:j=n
   ·right;rw [←e];exact h2
   ·left;exact ⟨j,by omega,h2⟩
theorem anyTo_false (p:Int→Bool) (L:List Nat) (n:Nat):anyTo p L n=false↔ ∀j,j<n→p (lb L j)=false:=by
 rw [←Bool.not_eq_true,anyTo_iff]
 constructor
 ·intro h j hj
  cases e:p (lb L j)
  ·rfl
  ·exact absurd ⟨j,hj,e⟩ h
 ·rintro h ⟨j,hj,e⟩
  rw [h j hj] at e;cases e
def smB (x:Int):Bool:=decide (x*2%18446744073709551616/9007199254740992<1923)
theorem sm_val (x:Int) (h0:0≤x) (h1:x<18446744073709551616) (A:Nat) (hA:A=1975) (h:smB x=true):classOf x<4∧(uV x).natAbs≤2^A:=by
 have h2:x*2%18446744073709551616/9007199254740992<1923:=of_decide_eq_true h
 have ha:absOf x<1923*4503599627370496:=by unfold absOf;omega
 have hc:classOf x<4:=by have:=class_val x h0 h1;omega
 refine ⟨hc,?_⟩
 have hr:(rankOf x).natAbs<1923*4503599627370496:=by
  rw [rank_abs x h0 h1]
  have:0≤absOf x:=by unfold absOf;omega
  split<;>omega
 unfold uV
 rw [if_pos hc]
 have hv:(rvs (rankOf x)).natAbs=rvi (rankOf x).natAbs:=by unfold rvs;split<;>omega
 rw [hv]
 have a:=rvi_mono hr
 obtain ⟨k,hk⟩: ∃k:Nat,k=1922:=⟨_,rfl⟩
 have e:1923*4503599627370496=k*4503599627370496+4503599627370496:=by omega
 rw [e,rvi_pow] at a
 exact Nat.le_trans (Nat.le_of_lt a) (Nat.pow_le_pow_right (by omega) (by omega))
theorem rX_nil (mode:Int):rX (0,0) mode=0:=by
 unfold rX numX numR capX
 rw [if_pos (show Int.natAbs (0,0).1=0 from rfl),if_neg (by omega)]
 rfl
theorem ts_end (l:List Nat) (mode:Int) (n:Nat) (hn:n=l.length) (hl:n≤60) (h: ∀j,j<n→lb l j<18446744073709551616∧smB (lb l j)=true):
 prE (tsL l n)=0∧(sumX l mode=rX (grS (tsL l n)) mode∨(sumX l mode=0∨sumX l mode=9223372036854775808)∧rX (grS (tsL l n)) mode=0):=by
 have hb: ∀j,0≤lb l j:=fun j=>by unfold lb;omega
 have hs: ∀j,j<l.length→lb l j<18446744073709551616∧classOf (lb l j)<4∧(uV (lb l j)).natAbs≤2^1975:=fun j hj=>
  ⟨(h j (by omega)).1,sm_val _ (hb j) (h j (by omega)).1 1975 rfl (h j (by omega)).2⟩
 obtain ⟨a,b,-,-⟩:=top_sum l 1975 rfl (by omega) hs n (by omega)
 have hlen:=tsL_len l n
 refine ⟨by rw [ok_prE a,if_neg (by omega)],?_⟩
 have eg:grS (tsL l n)=sDy l:=by unfold grS sDy;rw [b,hn]
 have no: ∀p:Int→Bool,(∀x,p x=true→4≤classOf x)→anyTo p l l.length=false:=fun p hp=>
  (anyTo_false p l l.length).2 (fun j hj=>by
   cases hq:p (lb l j) with
   |false=>rfl
   |true=>have:=hp _ hq;have:=(hs j hj).2.1;omega)
 have n1:=no isNan (fun x hx=>by have:classOf x=5:=by simpa [isNan] using hx
                                 omega)
 have n2:=no pInf (fun x hx=>by have:classOf x=4:=by simp [pInf,isInf] at hx;exact hx.1
                                omega)
 have n3:=no mInf (fun x hx=>by have:classOf x=4:=by simp [mInf,isInf] at hx;exact hx.1
                                omega)
 rw [eg]
 unfold sumX sNan sInf
 rw [n1,n2,n3]
 rw [if_neg (by simp),if_neg (by simp)]
 by_cases hz:sumTo l l.length=0
 ·right
  have e0:sDy l=(0,0):=by unfold sDy;rw [hz];exact nrm_zero _
  rw [if_neg (by simpa using hz),e0]
  refine ⟨?_,rX_nil mode⟩
  split
  ·exact .inl rfl
  ·split
   ·exact .inr rfl
   ·split
    ·exact .inr rfl
    ·exact .inl rfl
 ·left
  rw [if_pos hz]
theorem okL_lb {T:List Nat} (h:OkL T): ∀j,lb T j<18446744073709551616:=fun j=>by
 by_cases c:j<T.length
 ·exact (h.1 j c).1
 ·unfold lb
  rw [show T.getD j 0=0 by simp [List.getD,List.getElem?_eq_none (Nat.le_of_not_lt c)]]
  decide
end Go.Ulp
namespace Go.Proofs.YtfphmlmgjhebjaaGreatDoor
open Go.RowKit Go.Ulp
set_option maxHeartbeats 4000000
set_option maxRecDepth 100000
theorem ErrZ.made2 {w:World} {t:TypeId}:ErrZ (w.alloc (.cells #[.int .i64 0,.int .i64 0] t)) w.heap.size 2:=by
 intro j hj
 rcases (show j=0∨j=1 by omega) with e|e<;>subst e<;>(rw [World.cell?_alloc_at (hn:=rfl)];rfl)
theorem topSum_walk (L:List Nat) (ao:Option Addr) (cap:Nat) (mode:Int) (W:World) (hN:Ns .u64 W ao cap L) (hl:AllLt 18446744073709551616 L) (wm: -9223372036854775808≤mode∧mode≤9223372036854775807) (hT:Tab 1 W) (hT10:Tab10 W):
 Calls Tryz.prog 5 #[.slice ao L.length cap,.int .i64 mode] W fun e w'=>e=.returned (.bool true)∧Below W.heap.size W w':=by
 have hL: ∀j,lb L j<18446744073709551616:=fun j=>lb_lt (by omega) hl j
 have hcap:=hN.1
 have hcap2:=hN.2.1
 unfold maxLen at hcap2
 have LV:=hid (fun w t t10=>lives_any w t t10)
 have SA0:=hid (fun w h t=>sumAllP_any ao cap L mode w h hL t)
 have HN:=hid hN
 have HT:=hid hT
 have HT10:=hid hT10
 clear hT hT10
 by_cases hgo: ¬(knownB mode=true∧L.length≤60)
 ·have SA1: ∃X C E,Hid (∀w,Ns .u64 w ao cap L→Tab 1 w→Calls Tryz.prog 27 #[.slice ao L.length cap,.int .i64 mode] w (RetX3 w X C E))∧((E !=0)=true∨(E=0∧((60:Int)<(L.length:Int)))):=by
   refine ⟨_,_,_,hid SA0.out,?_⟩
   cases hk:knownB mode
   ·left
    rw [if_neg (fun h=>by cases h.1)]
    unfold mdE;rw [hk];rfl
   ·by_cases hl2:200<L.length
    ·left;rw [if_pos ⟨rfl,hl2⟩];rfl
    ·right
     rw [if_neg (fun h=>hl2 h.2)]
     have: ¬L.length≤60:=fun h=>hgo ⟨hk,h⟩
     exact ⟨by unfold mdE;rw [hk];rfl,by omega⟩
  obtain ⟨X,C,E,SA,hE⟩:=SA1
  clear SA0 hl hL hgo hN
  rcases hE with hE|⟨rfl,hE⟩
  all_goals
   go_enter Tryz.func5,Tryz.ntmps5
   go_wp2_with (first
    |(go_at_call 27;(with_reducible refine (SA.out _ HN.out HT.out).mono ?_);rintro en w1 ⟨rfl,hb1⟩)
    |(go_at_call 28;first|((with_reducible refine (LV.out _ (HT.out.below hb1) (HT10.out.below hb1)).mono ?_);rintro en w2 ⟨rfl,hb2⟩)|((with_reducible refine (LV.out _ (HT.out.below (below_trans hb1 hb2)) (HT10.out.below (below_trans hb1 hb2))).mono ?_);rintro en w3 ⟨rfl,hb3⟩)))
   go_ret
   exact ⟨rfl,below_trans (below_trans hb1 hb2) hb3⟩
 obtain ⟨hk,h60⟩:=Decidable.not_not.1 hgo
 clear hgo
 rw [if_neg (by omega),if_neg (by omega),if_neg (fun h=>by omega),show mdX mode (sumX L mode)=sumX L mode by unfold mdX;rw [hk];rfl,show mdE mode=0 by unfold mdE;rw [hk];rfl] at SA0
 have TE:=hid (fun h=>ts_end L mode L.length rfl h60 h)
 have TS:=hid (fun (h: ∀j,j<L.length→smB (lb L j)=true)=>top_sum L 1975 rfl h60 (fun j hj=>⟨hL j,sm_val _ (by unfold lb;omega) (hL j) 1975 rfl (h j hj)⟩))
 have h60i: ¬(60:Int)<(L.length:Int):=by omega
 have HL:=hid hL
 obtain ⟨X,hX⟩: ∃X,X=sumX L mode:=⟨_,rfl⟩
 rw [←hX] at SA0 TE
 clear hX hN hl hL
 go_enter Tryz.func5,Tryz.ntmps5
 go_upto_region 3 with (first
  |(go_at_call 27;(with_reducible refine (SA0.out _ HN.out HT.out).mono ?_);rintro en w1 ⟨rfl,hb1⟩)
  |(go_at_call 28;first|((with_reducible refine (LV.out _ (HT.out.below hb1) (HT10.out.below hb1)).mono ?_);rintro en w2 ⟨rfl,hb2⟩)|((with_reducible refine (LV.out _ (HT.out.below (below_trans hb1 hb2)) (HT10.out.below (below_trans hb1 hb2))).mono ?_);rintro en w3 ⟨rfl,hb3⟩)))
 have y2:=below_trans hb1 hb2
 clear hb1 hb2
 go_wp2_with fail
 go_loopw [10,40] (fun _ s40 wr=> ∃i:Nat,s40=.int .i64 (i:Int)∧i≤L.length∧(∀j,j<i→smB (lb L j)=true)∧Below W.heap.size W wr) (fun _ i _=>L.length-(intOf i).toNat)
 case atStart=>exact ⟨0,rfl,by omega,fun j hj=>absurd hj (Nat.not_lt_zero j),y2⟩
 case round=>
 obtain ⟨i,rfl,hi,hsm,yr⟩:=hrel
 clear y2
 by_cases hi2:(i:Int)<(L.length:Int)
 ·obtain ⟨b0,o0,rfl,hc0⟩:=HN.out.2.2 (by omega)
  have k0:=(yr.cell (p:=⟨b0,o0+i,none⟩) (World.block_lt_of_cell? _ _ (hc0 i (by omega)))).trans (hc0 i (by omega))
  have HI:=hid hsm
  clear hsm hc0
  have hx:=hid (show smB (lb L i)=decide (lb L i*2%18446744073709551616/9007199254740992<1923) from rfl)
  have hy0:0≤lb L i:=by unfold lb;omega
  have hy1:=HL.out i
  obtain ⟨y,hy⟩: ∃y,y=lb L i:=⟨_,rfl⟩
  have HY:=hid hy
  rw [←hy] at k0 hx hy0 hy1
  clear hy
  have hwr:IntKind.u64.wrap (y*2)=y*2%18446744073709551616:=by first|rfl|simp [IntKind.wrap]
  rw [←hwr] at hx
  clear hwr
  by_cases c:IntKind.u64.wrap (y*2)/9007199254740992<1923
  ·have hs:smB y=true:=by rw [hx.out];exact decide_eq_true c
   go_wp2_with fail
   go_roundw
   case rel=>exact ⟨i+1,by go_num,by omega,fun j hj=>by
    by_cases e:j=i
    ·rw [e,←HY.out];exact hs
    ·exact HI.out j (by omega),yr⟩
   case measure=>simp [intOf];omega
  ·go_wp2_with fail
   go_ret
   exact ⟨rfl,yr⟩
 have hall: ∀j,j<L.length→smB (lb L j)=true:=fun j hj=>hsm j (by omega)
 have T1:=hid (TS.out hall)
 have T2:=TE.out (fun j hj=>⟨HL.out j,hall j hj⟩)
 clear TS TE hsm hall
 have AD:=hid (show ∀k,k<L.length→ ∀a c w,Ns .u64 w a c (tsL L k)→Tab 1 w→Calls Tryz.prog 29 #[.slice a (tsL L k).length c,.int .u64 ((L.getD k 0:Nat):Int)] w fun e w'=> ∃a' c',e=.returned (.tuple #[.slice a' (tsL L (k+1)).length c',.int .i64 0])∧Ns .u64 w' a' c' (tsL L (k+1))∧Below w.heap.size w w' from fun k hk a c w h t=>by
  have g:=growAdd_any a c (tsL L k) (L.getD k 0) w h (okL_lb (T1.out k (by omega)).1) (by have:=HL.out k;unfold lb at this;omega) t
  have e0:=(T1.out (k+1) (by omega)).2.2.2 k (by omega)
  have e1:gwA (tsL L k) (L.getD k 0)=tsL L (k+1):=by unfold gwA;rw [if_pos e0];rfl
  rw [e0,e1] at g
  exact g)
 go_wp2_with fail
 go_loopw [8,12,13,51] (fun s8 _ _ s51 wr=> ∃(i:Nat) (a:Option Addr) (c:Nat),s51=.int .i64 (i:Int)∧i≤L.length∧s8=.slice a (tsL L i).length c∧Ns .u64 wr a c (tsL L i)∧Below W.heap.size W wr) (fun _ _ _ i _=>L.length-(intOf i).toNat)
 case atStart=>exact ⟨0,none,0,rfl,by omega,rfl,Ns.nil,yr⟩
 case round=>
 obtain ⟨i,a,c,rfl,hi,rfl,hNT,yr⟩:=hrel
 by_cases hi2:(i:Int)<(L.length:Int)
 ·obtain ⟨b0,o0,rfl,hc0⟩:=HN.out.2.2 (by omega)
  have k0:=(yr.cell (p:=⟨b0,o0+i,none⟩) (World.block_lt_of_cell? _ _ (hc0 i (by omega)))).trans (hc0 i (by omega))
  have A0:=hid (fun w h t=>AD.out i (by omega) a c w h t)
  have hyd:lb L i=((L.getD i 0:Nat):Int):=rfl
  rw [←hyd] at A0
  obtain ⟨y,hy⟩: ∃y,y=lb L i:=⟨_,rfl⟩
  rw [←hy] at k0 A0
  have HNT:=hid hNT
  clear hy hyd hc0 AD hNT
  go_wp2_with (go_at_call 29;(with_reducible refine (A0.out _ HNT.out (HT.out.below yr)).mono ?_);rintro en w3 ⟨a3,c3,rfl,hN3,hb3⟩)
  go_roundw
  case rel=>exact ⟨i+1,a3,c3,by go_num,by omega,rfl,hN3,below_trans yr hb3⟩
  case measure=>simp [intOf];omega
 have hil:i=L.length:=by omega
 have hTL:=okL_lb (T1.out i (by omega)).1
 have hTn:=tsL_len L i
 obtain ⟨t0,t1⟩:=T2
 rw [←hil] at t0 t1
 clear AD T1
 generalize tsL L i=T at *
 have hbn:=(grS_bd 2298 rfl T hTL (by omega)).2
 have VA:=hid (fun w h t=>growVal_any a c T w h hTL t)
 have eV:grV T=grS T:=by unfold grV;rw [if_pos t0]
 rw [eV,t0] at VA
 have DE:=dyadE_form (grS T) (nrm_isN _ _) hbn
 have TO:=hid (fun a c w h=>roundTo_any (decide ((grS T).1<0)) a c (limbs (grS T).1.natAbs) (grS T).2 mode w h (limbs_lim _))
 have e0:toE (decide ((grS T).1<0)) (limbs (grS T).1.natAbs) (grS T).2 mode=0:=by unfold toE;rw [if_pos DE,if_pos hk]
 have e1:toX (decide ((grS T).1<0)) (limbs (grS T).1.natAbs) (grS T).2 mode=rX (grS T) mode:=by unfold toX rX;rw [if_pos e0,lval_limbs]
 rw [e0,e1] at TO
 generalize toC (decide ((grS T).1<0)) (limbs (grS T).1.natAbs) (grS T).2 mode=TC at TO
 generalize rX (grS T) mode=Y at *
 generalize grS T=D at *
 clear e0 e1 DE hbn eV hTL hTn hil hi
 have HNT:=hid hNT
 clear hNT
 go_upto_region 20 with (go_at_call 30;(with_reducible refine (VA.out _ HNT.out (HT.out.below yr)).mono ?_);rintro en w5 ⟨v,rfl,⟨a5,c5,rfl,hN5⟩,hb5⟩)
 refine wp_wld (fun WW=>Below W.heap.size W WW∧QL 67 WW w5.heap.size (decide (D.1<0)) (.slice a5 (limbs D.1.natAbs).length c5) D.2∧Ns .u32 WW a5 c5 (limbs D.1.natAbs)) ⟨below_trans (below_trans yr hb5) (below_alloc _ _),QL.made rfl,hN5.below (below_alloc _ _)⟩ ?_
 clear yr hb5 hN5 VA
 intro W1 ⟨y1,z1,hN1⟩
 obtain ⟨g9,hg9⟩: ∃g,g=w5.heap.size:=⟨_,rfl⟩
 rw [←hg9] at z1 ⊢
 clear hg9
 obtain ⟨⟨j0,j1,-⟩,j2,-⟩:=id z1
 clear z1
 have OK:=hid (fun g w (h:ErrZ w g 2)=>topOk_any g 2 2 w h (by omega))
 have HN1:=hid hN1
 clear hN1
 rcases t1 with rfl|⟨hx,rfl⟩
 ·have hxx:(X==X)=true:=beq_self_eq_true X
  go_wp2_with (first
   |(go_at_call 31;(with_reducible refine (TO.out _ _ _ HN1.out).mono ?_);rintro en w6 ⟨rfl,hb6⟩)
   |(go_at_call 32;(with_reducible refine (OK.out _ _ ErrZ.made2).mono ?_);rintro en w7 ⟨rfl,hb7⟩))
  go_ret
  exact ⟨rfl,below_trans (below_trans (below_trans y1 hb6) (below_alloc _ _)) hb7⟩
 ·have C0:=hid (fun w=>class_any 0 (by omega) (by omega) w)
  have C1:=hid (fun w=>class_any 9223372036854775808 (by omega) (by omega) w)
  rw [show classOf 0=1 by decide] at C0
  rw [show classOf 9223372036854775808=1 by decide] at C1
  rcases hx with rfl|rfl
  all_goals
   go_wp2_with (first
    |(go_at_call 31;(with_reducible refine (TO.out _ _ _ HN1.out).mono ?_);rintro en w6 ⟨rfl,hb6⟩)
    |(go_at_call 32;(with_reducible refine (OK.out _ _ ErrZ.made2).mono ?_);rintro en w7 ⟨rfl,hb7⟩)
    |(go_at_call 33;first|((with_reducible refine (C0.out _).mono ?_);rintro en w8 ⟨rfl,rfl⟩)|((with_reducible refine (C1.out _).mono ?_);rintro en w8 ⟨rfl,rfl⟩)))
   go_ret
   exact ⟨rfl,below_trans (below_trans (below_trans y1 hb6) (below_alloc _ _)) hb7⟩
end Go.Proofs.YtfphmlmgjhebjaaGreatDoor
