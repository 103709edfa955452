/- WantedSays: what the proof leans on, part 24 (Hx1 Hp Hx2). -/
import Derived.Test.YtfphmlmgjhebjaaGreatDoorKWantedSays11
import Derived.Test.YtfphmlmgjhebjaaGreatDoorKWantedSays13
import Derived.Test.YtfphmlmgjhebjaaGreatDoorKWantedSays15
import Derived.Test.YtfphmlmgjhebjaaGreatDoorKWantedSays17
import Derived.Test.YtfphmlmgjhebjaaGreatDoorKWantedSays23
set_option linter.unusedVariables false
set_option linter.unusedSimpArgs false
namespace Go.Ulp
open Go.RowKit
def hxP (p:Int):List UInt8:=112::(if p<0 then 45 else 43)::decD p.natAbs
def hxT (neg:Bool) (n m:Nat) (p:Int):List UInt8:=dsh neg (48::120::49::((if n=0 then [] else 46::hxD n m)++hxP p))
def hxZ (neg:Bool) (n:Nat):List UInt8:=dsh neg (48::120::48::((if n=0 then [] else 46::List.replicate n 48)++ [112,43,48]))
end Go.Ulp
namespace Go.Proofs.YtfphmlmgjhebjaaGreatDoor
open Go.RowKit Go.Ulp
set_option maxHeartbeats 2000000
set_option maxRecDepth 100000
theorem writeZ_any (x:Int) (h0:0≤x) (h1:x<18446744073709551616) (v:Value) (D:Dy) (n:Nat) (w:World) (hv:VD w D v) (hD:D.1=0) (hn:n≤1000):
 Calls Tryz.prog 97 #[.int .u64 x,v,.int .i64 (n:Int)] w fun e w'=>e=.returned (.string (bsOf (hxZ (negB x) n)))∧Below w.heap.size w w':=by
 obtain ⟨am,cm,rfl,hN⟩:=hv
 have hl0:(limbs D.1.natAbs).length=0:=by rw [hD];rfl
 rw [hl0]
 have RP:=hid (show ∀w,Calls Tryz.prog 70 #[.string (bsOf [48]),.int .i64 (n:Int)] w fun e w'=>e=.returned (.string (bsOf (List.replicate n 48)))∧Below w.heap.size w w' from fun w=>repeat_any 48 n (by omega) w)
 have zQ:QL 67 (w.alloc (.cells #[.bool (decide (D.1<0)),.slice am 0 cm,.int .i64 D.2] 67)) w.heap.size (decide (D.1<0)) (.slice am 0 cm) D.2:=QL.made rfl
 have yb0:=below_alloc w (.cells #[.bool (decide (D.1<0)),.slice am 0 cm,.int .i64 D.2] 67)
 obtain ⟨⟨j0,j1,-⟩,j2,-⟩:=zQ
 clear hD hN
 generalize decide (D.1<0)=neg at *
 obtain ⟨HH,hHH⟩: ∃H:List UInt8,H=if negB x=true then [45,48,120] else [48,120]:=⟨_,rfl⟩
 have hHl:HH.length≤3:=by rw [hHH];split<;>simp
 have a1:=add_bs (P:=Tryz.prog) HH [48] (by simp;omega)
 have a2:=add_bs (P:=Tryz.prog) [46] (List.replicate n 48) (by simp;omega)
 have a3:=add_bs (P:=Tryz.prog) (HH++ [48]) (46::List.replicate n 48) (by simp;omega)
 have a4:=add_bs (P:=Tryz.prog) (HH++ [48]++(46::List.replicate n 48)) [112,43,48] (by simp;omega)
 have a5:=add_bs (P:=Tryz.prog) (HH++ [48]) [112,43,48] (by simp;omega)
 have b1:(ByteArray.mk #[48])=bsOf [48]:=rfl
 have b2:(ByteArray.mk #[46])=bsOf [46]:=rfl
 have b3:(ByteArray.mk #[112,43,48])=bsOf [112,43,48]:=rfl
 have b4:(ByteArray.mk #[48,120])=bsOf [48,120]:=rfl
 have b5:(ByteArray.mk #[45,48,120])=bsOf [45,48,120]:=rfl
 have HR:=hid (show hxZ (negB x) n=if n=0 then HH++ [48]++ [112,43,48] else HH++ [48]++(46::List.replicate n 48)++ [112,43,48] by
  rw [hHH];unfold hxZ dsh
  cases negB x<;>by_cases h:n=0<;>simp [h])
 obtain ⟨RZ,hRZ⟩: ∃R,R=hxZ (negB x) n:=⟨_,rfl⟩
 rw [←hRZ] at HR ⊢
 generalize HH++ [48]++(46::List.replicate n 48)++ [112,43,48]=T4 at *
 generalize HH++ [48]++(46::List.replicate n 48)=T3 at *
 simp only [List.cons_append,List.nil_append] at a2
 generalize HH++ [48]++ [112,43,48]=T5 at *
 generalize HH++ [48]=T1 at *
 have HS:=hid (show (9223372036854775808≤x→bsOf HH=bsOf [45,48,120])∧(x<9223372036854775808→bsOf HH=bsOf [48,120]) from ⟨fun h=>by rw [hHH,if_pos (show negB x=true from decide_eq_true h)],fun h=>by rw [hHH,if_neg (by unfold negB;simp;omega)]⟩)
 clear hHH hRZ
 go_enter Tryz.func97,Tryz.ntmps97
 by_cases hx:9223372036854775808≤x
 ·have hs:x/9223372036854775808=1:=by omega
  have hb:=(HS.out.1 hx).symm
  by_cases hn0:n=0
  ·have hn1: ¬0<(n:Int):=by omega
   have hn2:decide (0<n)=false:=decide_eq_false (by omega)
   have HRR:=hid (show RZ=T5 by rw [HR.out,if_pos hn0])
   clear HR hn0 HS
   go_wp2_with fail
   go_ret
   exact ⟨by rw [HRR.out];rfl,yb0⟩
  ·have hn1:0<(n:Int):=by omega
   have hn2:decide (0<n)=true:=decide_eq_true (by omega)
   have HRR:=hid (show RZ=T4 by rw [HR.out,if_neg hn0])
   clear HR hn0 HS
   go_wp2_with (go_at_call 70;(with_reducible refine (RP.out _).mono ?_);rintro en w1 ⟨rfl,hb1⟩)
   go_ret
   exact ⟨by rw [HRR.out];rfl,below_trans yb0 hb1⟩
 ·have hs:x/9223372036854775808=0:=by omega
  have hb:=(HS.out.2 (by omega)).symm
  by_cases hn0:n=0
  ·have hn1: ¬0<(n:Int):=by omega
   have hn2:decide (0<n)=false:=decide_eq_false (by omega)
   have HRR:=hid (show RZ=T5 by rw [HR.out,if_pos hn0])
   clear HR hn0 HS
   go_wp2_with fail
   go_ret
   exact ⟨by rw [HRR.out];rfl,yb0⟩
  ·have hn1:0<(n:Int):=by omega
   have hn2:decide (0<n)=true:=decide_eq_true (by omega)
   have HRR:=hid (show RZ=T4 by rw [HR.out,if_neg hn0])
   clear HR hn0 HS
   go_wp2_with (go_at_call 70;(with_reducible refine (RP.out _).mono ?_);rintro en w1 ⟨rfl,hb1⟩)
   go_ret
   exact ⟨by rw [HRR.out];rfl,below_trans yb0 hb1⟩
theorem write_any (x:Int) (h0:0≤x) (h1:x<18446744073709551616) (v:Value) (D:Dy) (n:Nat) (p:Int) (s m:Nat) (w:World) (hv:VD w D v) (hD:D.1≠0) (hl:(limbs D.1.natAbs).length≤100) (he: -20000≤D.2∧D.2≤20000) (hn:n≤1000) (hp:p=(bl D.1.natAbs:Int)+D.2-1) (hs:(s:Int)=D.2-p+4*n) (hm:m=D.1.natAbs*2^s) (hT10:Tab10 w):
 Calls Tryz.prog 97 #[.int .u64 x,v,.int .i64 (n:Int)] w fun e w'=>e=.returned (.string (bsOf (hxT (negB x) n m p)))∧Below w.heap.size w w':=by
 obtain ⟨am,cm,rfl,hN⟩:=hv
 obtain ⟨M,hM⟩: ∃M,M=D.1.natAbs:=⟨_,rfl⟩
 have hM0:0<M:=by omega
 rw [←hM] at hN hl hp hm ⊢
 have hbl:=bl_len2 M 100 hl
 have LN:=hid (fun w h=>natLen_any am cm M w h (by omega))
 have LE:=hid (show ∀w,Ns .u32 w am cm (limbs M)→Calls Tryz.prog 172 #[.slice am (limbs M).length cm,.int .i64 (s:Int)] w fun e w'=>RetN w m e w' from fun w h=>by
  rw [hm];exact leftN_any am cm M s w h (by omega) (by omega))
 have hml:(limbs m).length≤3000:=by
  rw [hm]
  refine limbs_short1 (bl M+s) 3000 (by omega) _ ?_
  rw [Nat.pow_add]
  exact Nat.mul_lt_mul_of_pos_right (lt_bl M) (Nat.two_pow_pos s)
 obtain ⟨y,hy⟩: ∃y,y=D.2:=⟨_,rfl⟩
 obtain ⟨b,hb⟩: ∃b,b=bl M:=⟨_,rfl⟩
 rw [←hy] at he hp hs
 rw [←hb] at hp LN hbl
 have hlp:0<(limbs M).length:=(digs_len_pos 4294967296 (by omega) M).2 hM0
 have hlz:(((limbs M).length:Int)==0)=false:=beq_eq_false_iff_ne.2 (by omega)
 have HN:=hid hN
 have HY:=hid hy
 have zQ:QL 67 (w.alloc (.cells #[.bool (decide (D.1<0)),.slice am (limbs M).length cm,.int .i64 D.2] 67)) w.heap.size (decide (D.1<0)) (.slice am (limbs M).length cm) D.2:=QL.made rfl
 have yb0:=below_alloc w (.cells #[.bool (decide (D.1<0)),.slice am (limbs M).length cm,.int .i64 D.2] 67)
 rw [←hy] at zQ yb0 ⊢
 have HP:=hid hp
 have HSS:=hid hs
 have hpb: -30000≤p∧p≤30000:=by omega
 have hsb:s≤100000:=by omega
 have hpp:(b:Int)+y-1=p:=by omega
 have hss:y-p+4*(n:Int)=(s:Int):=by omega
 clear hN hM hb hm hy hM0 hlp hD hp hs
 generalize decide (D.1<0)=neg at *
 obtain ⟨HH,hHH⟩: ∃H:List UInt8,H=if negB x=true then [45,48,120] else [48,120]:=⟨_,rfl⟩
 have HS:=hid (show (9223372036854775808≤x→bsOf HH=bsOf [45,48,120])∧(x<9223372036854775808→bsOf HH=bsOf [48,120]) from ⟨fun h=>by rw [hHH,if_pos (show negB x=true from decide_eq_true h)],fun h=>by rw [hHH,if_neg (by unfold negB;simp;omega)]⟩)
 have HHH:=hid hHH
 have HT:=hid hT10
 clear hHH hT10
 go_enter Tryz.func97,Tryz.ntmps97
 go_upto_region 1 with fail
 refine wp_worldZ (fun WW=>Below w.heap.size w WW∧QL 67 WW w.heap.size neg (.slice am (limbs M).length cm) y∧Ns .u32 WW am cm (limbs M)) ⟨yb0,zQ,HN.out.below yb0⟩ ?_
 intro W1 ⟨y1,z1,hN1⟩
 obtain ⟨g1,hg1⟩: ∃g,g=w.heap.size:=⟨_,rfl⟩
 rw [←hg1] at z1 ⊢
 have H1:=hid z1
 have HN1:=hid hN1
 clear hg1 zQ yb0 HN hN1 z1
 go_upto_if 14 with fail
 go_cut [7] (fun s7 wx=>s7=.string (bsOf HH)∧wx=W1)
 case first=>
  by_cases hx:9223372036854775808≤x
  ·have hs:x/9223372036854775808=1:=by omega
   have hb:=hid (HS.out.1 hx)
   clear HS HHH
   go_wp2_with fail
   go_meet
   exact ⟨by rw [hb.out];rfl,rfl⟩
  ·have hs:x/9223372036854775808=0:=by omega
   have hb:=hid (HS.out.2 (by omega))
   clear HS HHH
   go_wp2_with fail
   go_meet
   exact ⟨by rw [hb.out];rfl,rfl⟩
 case rest=>
  obtain ⟨rfl,hwc⟩:=hcut
  subst hwc
  obtain ⟨⟨j0,j1,-⟩,j2,-⟩:=id H1.out
  have hHl:HH.length≤3:=by rw [HHH.out];split<;>simp
  have hw1:IntKind.i64.wrap ((b:Int)+y)=(b:Int)+y:=IntWalk.i64_in _ (by omega)
  have hw2:IntKind.i64.wrap p=p:=IntWalk.i64_in _ (by omega)
  go_upto_region 9 with fail
  refine wp_region_grow 8 [30,31,32,33,34,35,36,8] [Fact.is (.pointer (some ⟨g1,1,none⟩)),Fact.is (.slice am (limbs M).length cm),Fact.is (.int .i64 (b:Int)),Fact.is (.pointer (some ⟨g1,2,none⟩)),Fact.is (.int .i64 y),Fact.is (.int .i64 ((b:Int)+y)),Fact.is (.int .i64 p),Fact.is (.int .i64 p)] (by kernel_rfl) (by kernel_rfl) ⟨?o0,?o1,?o2,?o3,?o4,?o5,?o6,?o7,trivial⟩ ?after
  case o0=>(refine oQ rfl ?_;intro ρ w1 R hcon hfn hρ hb hp hR;have e4:ρ (.tmp 4)=.pointer (some ⟨g1,0,none⟩):=hρ.tmp 4 rfl;clear hρ hp;unfold OpRun;go_simp;exact hR _ _ (Below.refl _ _) rfl)
  case o1=>(refine oQ rfl ?_;intro ρ w1 R hcon hfn hρ hb hp hR;have e30:ρ (.tmp 30)=_:=hp 0 30 rfl rfl;obtain ⟨⟨j0,j1,-⟩,j2,-⟩:=H1.out.below hb;clear hρ hp;unfold OpRun;go_simp;exact hR _ _ (Below.refl _ _) rfl)
  case o2=>(refine oQ rfl ?_;intro ρ w1 R hcon hfn hρ hb hp hR;have e31:ρ (.tmp 31)=_:=hp 1 31 rfl rfl;clear hρ hp;unfold OpRun;go_simp;(refine (LN.out _ (HN1.out.below hb)).mono ?_;rintro e wn ⟨rfl,rfl⟩;exact ⟨_,rfl,hR _ _ (Below.refl _ _) rfl⟩))
  case o3=>(refine oQ rfl ?_;intro ρ w1 R hcon hfn hρ hb hp hR;have e4:ρ (.tmp 4)=.pointer (some ⟨g1,0,none⟩):=hρ.tmp 4 rfl;clear hρ hp;unfold OpRun;go_simp;exact hR _ _ (Below.refl _ _) rfl)
  case o4=>(refine oQ rfl ?_;intro ρ w1 R hcon hfn hρ hb hp hR;have e33:ρ (.tmp 33)=_:=hp 3 33 rfl rfl;obtain ⟨⟨j0,j1,-⟩,j2,-⟩:=H1.out.below hb;clear hρ hp;unfold OpRun;go_simp;exact hR _ _ (Below.refl _ _) rfl)
  case o5=>(refine oQ rfl ?_;intro ρ w1 R hcon hfn hρ hb hp hR;have e32:ρ (.tmp 32)=_:=hp 2 32 rfl rfl;have e34:ρ (.tmp 34)=_:=hp 4 34 rfl rfl;clear hρ hp;unfold OpRun;go_simp;exact hR _ _ (Below.refl _ _) rfl)
  case o6=>(refine oQ rfl ?_;intro ρ w1 R hcon hfn hρ hb hp hR;have e35:ρ (.tmp 35)=_:=hp 5 35 rfl rfl;clear hρ hp;unfold OpRun;go_simp;exact hR _ _ (Below.refl _ _) rfl)
  case o7=>(refine oQ rfl ?_;intro ρ w1 R hcon hfn hρ hb hp hR;have e36:ρ (.tmp 36)=_:=hp 6 36 rfl rfl;clear hρ hp;unfold OpRun;go_simp;exact hR _ _ (Below.refl _ _) rfl)
  case after=>
   intro u wn hb hf
   have e8:u 8=_:=hf 7 8 (by omega) rfl
   clear hf
   simp only [putAll,Act.put,List.setIfInBounds_toArray,List.set_cons_zero,List.set_cons_succ,List.drop_succ_cons,List.drop_zero,List.drop_nil]
   rw [e8]
   have y2:=below_trans y1 hb
   have H2:=hid (H1.out.below hb)
   have HN2:=hid (HN1.out.below hb)
   obtain ⟨W2,hW2⟩: ∃W,W=wn:=⟨_,rfl⟩
   subst hW2
   clear H1 HN1 y1 hb j0 j1 j2 hw1 hpp
   obtain ⟨⟨j0,j1,-⟩,j2,-⟩:=id H2.out
   have hw3:IntKind.i64.wrap (y-p)=y-p:=IntWalk.i64_in _ (by omega)
   have hw4:IntKind.i64.wrap (4*(n:Int))=4*(n:Int):=IntWalk.i64_in _ (by omega)
   have hw5:IntKind.i64.wrap (s:Int)=(s:Int):=IntWalk.i64_in _ (by omega)
   have a1:=add_bs (P:=Tryz.prog) HH [49] (by simp;omega)
   have b1:(ByteArray.mk #[49])=bsOf [49]:=rfl
   go_upto_if 50 with (go_at_call 172;(with_reducible refine (LE.out _ HN2.out).mono ?_);rintro en w3 ⟨a9,rfl,hN9,hb3⟩)
   obtain ⟨B0,hB0⟩: ∃B,B=HH++ [49]++(if n=0 then [] else [46]):=⟨_,rfl⟩
   have hB0l:B0.length≤5:=by rw [hB0];split<;>simp<;>omega
   have HB0:=hid hB0
   clear hB0
   go_cut [7] (fun s7 wx=>s7=.string (bsOf B0)∧wx=w3)
   case first=>as_aux_lemma=>
    by_cases hn0:n=0
    ·have hn1: ¬0<(n:Int):=by omega
     have hn2:decide (0<n)=false:=decide_eq_false (by omega)
     have HBB:=hid (show B0=HH++ [49] by rw [HB0.out,if_pos hn0];simp)
     clear hn0 HB0
     go_wp2_with fail
     go_meet
     exact ⟨by rw [HBB.out],rfl⟩
    ·have hn1:0<(n:Int):=by omega
     have hn2:decide (0<n)=true:=decide_eq_true (by omega)
     have HBB:=hid (show B0=HH++ [49]++ [46] by rw [HB0.out,if_neg hn0])
     have a2:=add_bs (P:=Tryz.prog) (HH++ [49]) [46] (by simp;omega)
     have b2:(ByteArray.mk #[46])=bsOf [46]:=rfl
     rw [←HBB.out] at a2
     clear hn0 HB0 HBB
     go_wp2_with fail
     go_meet
     exact ⟨rfl,rfl⟩
   case rest=>
    obtain ⟨rfl,hwc⟩:=hcut
    subst hwc
    have y4:=below_trans y2 hb3
    have hNm:=hN9
    have hmc:=hN9.1
    have HN9:=hid hN9
    have hml9:=hml
    obtain ⟨W3,hW3⟩: ∃W,W=wc:=⟨_,rfl⟩
    subst hW3
    clear hN9 hb3 H2 HN2 y2 j0 j1 j2 a1 b1 hHl hNm
    have hw6:IntKind.i64.wrap ((n:Int)-1)=(n:Int)-1:=IntWalk.i64_in _ (by omega)
    go_wp2_with fail
    go_loopw [7,10,11] (fun s7 s10 s11 wr=> ∃j:Int,-1≤j∧j<n∧s10=.int .i64 j∧s7=.string (bsOf (B0++(hxD n m).take (n-(j+1).toNat)))∧wr=W3) (fun _ s10 _ _=>(intOf s10+1).toNat)
    case atStart=>exact ⟨(n:Int)-1,by omega,by omega,rfl,by rw [show n-((n:Int)-1+1).toNat=0 by omega];simp,rfl⟩
    case round=>
     obtain ⟨j,hj1,hj2,rfl,rfl,rfl⟩:=hrel
     by_cases hj0:j<0
     ·have hcc: ¬0≤j:=by omega
      have hTT:=hid (show B0++(hxD n m).take (n-(j+1).toNat)=B0++hxD n m by
       rw [show n-(j+1).toNat=n by omega,List.take_of_length_le (by rw [hxD_len];omega)])
      rw [hTT.out]
      have hBl:(B0++hxD n m).length≤1005:=by rw [List.length_append,hxD_len];omega
      have HFI:=hid (show B0++hxD n m++hxP p=hxT (negB x) n m p by
       rw [HB0.out,HHH.out]
       unfold hxT dsh
       by_cases hn0:n=0
       ·rw [if_pos hn0,if_pos hn0,hn0]
        cases negB x<;>simp [hxD]
       ·rw [if_neg hn0,if_neg hn0]
        cases negB x<;>simp)
      obtain ⟨B1,hB1⟩: ∃B,B=B0++hxD n m:=⟨_,rfl⟩
      rw [←hB1] at hBl HFI ⊢
      obtain ⟨RT,hRT⟩: ∃R,R=hxT (negB x) n m p:=⟨_,rfl⟩
      rw [←hRT] at HFI
      have HRT:=hid hRT
      clear hRT
      have lDp:(decD p.natAbs).length≤6:=decD_len 5 _ (by omega)
      have IT:=hid (fun w t=>itoa_any p (by omega) (by omega) w t)
      have HT4:=hid (HT.out.below y4)
      clear hB1 HB0 HHH HP HSS hTT hj0 hj1 hj2 HS
      by_cases hp0:0≤p
      ·have hit:Lib.itoa p=decD p.natAbs:=by
        unfold Lib.itoa
        rw [if_neg (by omega)]
        congr 1
        omega
       have HFJ:=hid (show RT=B1++ [112,43]++decD p.natAbs by
        rw [←HFI.out];unfold hxP;rw [if_neg (by omega)];simp)
       rw [hit] at IT
       have a1:=add_bs (P:=Tryz.prog) B1 [112,43] (by simp;omega)
       have a2:=add_bs (P:=Tryz.prog) (B1++ [112,43]) (decD p.natAbs) (by simp;omega)
       have b1:(ByteArray.mk #[112,43])=bsOf [112,43]:=rfl
       rw [←HFJ.out] at a2
       clear HFI hit
       go_wp2_with (go_at_call 168;(with_reducible refine (IT.out _ HT4.out).mono ?_);rintro en w8 ⟨rfl,hb8⟩)
       go_ret
       exact ⟨by rw [←HRT.out];rfl,below_trans y4 hb8⟩
      ·have hit:Lib.itoa p=45::decD p.natAbs:=by
        unfold Lib.itoa
        rw [if_pos (by omega)]
       have HFJ:=hid (show RT=B1++ [112]++45::decD p.natAbs by
        rw [←HFI.out];unfold hxP;rw [if_pos (by omega)];simp)
       rw [hit] at IT
       have a1:=add_bs (P:=Tryz.prog) B1 [112] (by simp;omega)
       have a2:=add_bs (P:=Tryz.prog) (B1++ [112]) (45::decD p.natAbs) (by simp;omega)
       have b1:(ByteArray.mk #[112])=bsOf [112]:=rfl
       rw [←HFJ.out] at a2
       clear HFI hit
       go_wp2_with (go_at_call 168;(with_reducible refine (IT.out _ HT4.out).mono ?_);rintro en w8 ⟨rfl,hb8⟩)
       go_ret
       exact ⟨by rw [←HRT.out];rfl,below_trans y4 hb8⟩
     ·obtain ⟨i,rfl⟩:=Int.eq_ofNat_of_zero_le (show 0≤j by omega)
      have hST:=hxD_take n m i (by omega)
      obtain ⟨dg,hdg⟩: ∃d,d=m/16^i%16:=⟨_,rfl⟩
      have hd16:dg<16:=by omega
      have hLD:=limb_digit m i
      rw [←hdg] at hLD hST
      obtain ⟨k,hk⟩: ∃k,k=i/8:=⟨_,rfl⟩
      obtain ⟨r,hr⟩: ∃r,r=i%8:=⟨_,rfl⟩
      have e8:(i:Int)/8=(k:Int):=by omega
      have e9:(i:Int)%8=(r:Int):=by omega
      have hr8:r<8:=by omega
      rw [←hk,←hr] at hLD
      obtain ⟨lb9,hlb⟩: ∃l,l=(limbs m).getD k 0:=⟨_,rfl⟩
      rw [←hlb] at hLD
      have hlb2:lb9<4294967296:=by rw [hlb];exact (limbs_lim m).getD (by omega) _
      have hlh:=hxD_len n m
      rw [show ((i:Int)+1).toNat=i+1 by omega]
      have htk:((hxD n m).take (n-(i+1))).length≤1000:=by rw [List.length_take];omega
      obtain ⟨TK,hTK⟩: ∃X,X=(hxD n m).take (n-(i+1)):=⟨_,rfl⟩
      rw [←hTK] at hST htk ⊢
      have hA:=add_bs (P:=Tryz.prog) (B0++TK) [hxc dg] (by simp;omega)
      rw [List.append_assoc,←hST] at hA
      have HST:=hid (show (hxD n m).take (n-i)=(hxD n m).take (n-((i:Int)-1+1).toNat) by rw [show ((i:Int)-1+1).toNat=i by omega])
      have HLB:=hid hlb
      have HLD:=hid hLD
      have hwi:IntKind.i64.wrap ((i:Int)-1)=(i:Int)-1:=IntWalk.i64_in _ (by omega)
      clear hST hTK hlh hk hr hdg hlb hLD
      go_upto_if 63 with fail
      go_cut [11] (fun s11 wx=>s11=.int .u32 (lb9:Int)∧wx=wr)
      case first=>as_aux_lemma=>
       by_cases hkl:k<(limbs m).length
       ·obtain ⟨b9,o9,rfl,hc9⟩:=HN9.out.2.2 (by omega)
        have hcell:wr.cell? ⟨b9,o9+k,none⟩=some (.int .u32 (lb9:Int)):=by
         rw [HLB.out];exact hc9 k hkl
        have hk2:(k:Int)<((limbs m).length:Int):=by omega
        clear hc9
        go_wp2_with fail
        go_meet
        exact ⟨rfl,rfl⟩
       ·have hz:=hid (show lb9=0 by rw [HLB.out];exact getD_out _ _ (by omega))
        have hk2: ¬(k:Int)<((limbs m).length:Int):=by omega
        have hk3:decide (k<(limbs m).length)=false:=decide_eq_false hkl
        go_wp2_with fail
        go_meet
        exact ⟨by rw [hz.out];rfl,rfl⟩
      case rest=>
       obtain ⟨rfl,hwc⟩:=hcut
       subst hwc
       have hBA:bits .and .u32 ((lb9:Int)/2^(4*r)) 15=(dg:Int):=by
        have e1:(lb9:Int)/2^(4*r)=((lb9/2^(4*r):Nat):Int):=by rw [Int.natCast_ediv];simp
        rw [e1]
        have h:=and_mask_u32 (lb9/2^(4*r)) 4 (by omega) (Nat.lt_of_le_of_lt (Nat.div_le_self _ _) hlb2)
        rw [show (((2^4-1:Nat)):Int)=15 from rfl,show (2:Nat)^4=16 from rfl,HLD.out] at h
        exact h
       have hIX: ∀w,(Instr.index 9 (.string (ByteArray.mk #[48,49,50,51,52,53,54,55,56,57,97,98,99,100,101,102])) (.int .u32 (dg:Int))).run Tryz.prog w=.ok (.int .u8 ((hxc dg).toNat:Int)) w:=fun w=>by
        rw [run_index_string _ _ _ _ _ Tryz.underlying9,dif_pos ⟨by omega,by show (dg:Int)<16;omega⟩]
        have h8:(dg:Int).toNat=dg:=by omega
        simp only [h8,hx_get dg hd16]
       have hwc:wrap32 ((hxc dg).toNat:Int)=((hxc dg).toNat:Int):=IntWalk.wrap32_in _ (by have:=(hxc dg).toNat_lt;omega)
       have hEN:Utf8.encode ((hxc dg).toNat:Int)=bsOf [hxc dg]:=hx_enc dg hd16
       generalize (hxc dg).toNat=cn at *
       go_wp2_with fail
       go_roundw
       case rel=>exact ⟨(i:Int)-1,by omega,by omega,rfl,by rw [←HST.out];try rfl,by first|rfl|trivial⟩
       case measure=>first|(simp [intOf];done)|(simp [intOf];omega)
end Go.Proofs.YtfphmlmgjhebjaaGreatDoor
namespace Go.Ulp
open Go.RowKit
def hfK (D:Dy):Int:=(bl D.1.natAbs:Int)+D.2-1
theorem hfK_nrm (y e:Int) (h:y≠0):hfK (nrm y e)=(bl y.natAbs:Int)+e-1:=by
 obtain ⟨k,h1,h2⟩:=nrm_rep y e
 have h2:=h2 h
 have h3:y.natAbs=(nrm y e).1.natAbs*2^k:=by conv=>lhs;rw [h1]
                                             exact natAbs_mul_pw _ _
 have h4:0<(nrm y e).1.natAbs:=by
  rcases Nat.eq_zero_or_pos (nrm y e).1.natAbs with h|h
  ·rw [h] at h3;omega
  ·exact h
 unfold hfK
 rw [h3,bl_mul _ _ h4,h2]
 omega
theorem top_le (M a b:Nat) (h:0<M):2^b≤M*2^a↔b<bl M+a:=by
 have h1:=bl_le (M*2^a) b
 rw [bl_mul M a h] at h1
 omega
theorem one_isN (t:Int):nrm 1 t=(1,t):=nrm_of_isN (1,t) (.inr rfl)
theorem sc_nat (M:Nat) (e m:Int):sc (M:Int) e m=((M*2^(e-m).toNat:Nat):Int):=by
 unfold sc;rw [pw_nat,←Int.natCast_mul]
theorem cmp_top (E:Dy) (t:Int) (h:E.1≠0):0≤cmpD (absD E) (nrm 1 t)↔t≤hfK E:=by
 rw [one_isN]
 unfold cmpD absD
 show 0≤cmpI (sc ((E.1.natAbs:Nat):Int) E.2 (min E.2 t)) (sc ((1:Nat):Int) t (min E.2 t))↔_
 rw [sc_nat,sc_nat,Nat.one_mul]
 have h1:=top_le E.1.natAbs (E.2-min E.2 t).toNat (t-min E.2 t).toNat (by omega)
 unfold hfK
 have h2:0≤cmpI ((E.1.natAbs*2^(E.2-min E.2 t).toNat:Nat):Int) ((2^(t-min E.2 t).toNat:Nat):Int)↔2^(t-min E.2 t).toNat≤E.1.natAbs*2^(E.2-min E.2 t).toNat:=by
  generalize E.1.natAbs*2^(E.2-min E.2 t).toNat=a
  generalize 2^(t-min E.2 t).toNat=b
  unfold cmpI;split
  ·omega
  ·split<;>omega
 rw [h2,h1]
 omega
theorem cmpI_flip (a b:Int):0<cmpI a b↔ ¬0≤cmpI b a:=by
 unfold cmpI;split<;>split<;>(try split)<;>(try split)<;>omega
theorem cmpD_swap (D E:Dy):0<cmpD D E↔ ¬0≤cmpD E D:=by
 unfold cmpD
 rw [Int.min_comm E.2 D.2]
 exact cmpI_flip _ _
theorem cmp_top2 (E:Dy) (t:Int) (h:E.1≠0):0<cmpD (nrm 1 t) (absD E)↔hfK E<t:=by
 rw [cmpD_swap,cmp_top E t h];omega
theorem nrm_inj {x y e:Int} (h:nrm x e=nrm y e):x=y:=by
 obtain ⟨k,a1,a2⟩:=nrm_rep x e
 obtain ⟨l,b1,b2⟩:=nrm_rep y e
 by_cases hx:x=0
 ·have h3:(nrm y e).1=0:=by rw [←h,hx];rfl
  rw [hx,(nrm_zero_iff _ _).1 h3]
 ·have hy:y≠0:=fun hy=>hx ((nrm_zero_iff x e).1 (by rw [h,hy];rfl))
  have a2:=a2 hx
  have b2:=b2 hy
  rw [h] at a1 a2
  have:k=l:=by omega
  rw [this] at a1
  exact a1.trans b1.symm
def QW (tq ti:TypeId) (w:World) (g:Nat) (D:Dy) (A T:Nat) (X:Int) (n:Nat) (ao:Option Addr) (cap:Nat):Prop:=
 QL tq w g (zneg X) (.slice ao (zl X).length cap) (n:Int)∧QD ti w D A T (.agg #[.bool (zneg X),.slice ao (zl X).length cap,.int .i64 (n:Int)])
theorem QW.below {tq ti:TypeId} {w w':World} {g:Nat} {D:Dy} {A T:Nat} {X:Int} {n:Nat} {ao:Option Addr} {cap:Nat} (h:QW tq ti w g D A T X n ao cap) (hb:Below w.heap.size w w'):QW tq ti w' g D A T X n ao cap:=⟨h.1.below hb,h.2.below hb⟩
theorem QW.made {tq ti:TypeId} {w:World} {D:Dy} {A T:Nat} {X:Int} {n:Nat} {ao:Option Addr} {cap:Nat} (h:QD ti w D A T (.agg #[.bool (zneg X),.slice ao (zl X).length cap,.int .i64 (n:Int)])):
 QW tq ti (w.alloc (.cells #[.bool (zneg X),.slice ao (zl X).length cap,.int .i64 (n:Int)] tq)) w.heap.size D A T X n ao cap:=⟨QL.made rfl,h.below (below_alloc _ _)⟩
theorem QW.cells {tq ti:TypeId} {w:World} {g:Nat} {D:Dy} {A T:Nat} {X:Int} {n:Nat} {ao:Option Addr} {cap:Nat} (h:QW tq ti w g D A T X n ao cap):
 w.cell? ⟨g,0,none⟩=some (.bool (zneg X))∧w.cell? ⟨g,1,none⟩=some (.slice ao (zl X).length cap)∧w.cell? ⟨g,2,none⟩=some (.int .i64 (n:Int)):=⟨h.1.1.1,h.1.1.2.1,h.1.2.1⟩
theorem QW.qd {tq ti:TypeId} {w:World} {g:Nat} {D:Dy} {A T:Nat} {X:Int} {n:Nat} {ao:Option Addr} {cap:Nat} (h:QW tq ti w g D A T X n ao cap):QD ti w D A T (.agg #[.bool (zneg X),.slice ao (zl X).length cap,.int .i64 (n:Int)]):=h.2
theorem QD.tight {t:TypeId} {w:World} {D:Dy} {A T:Nat} {v:Value} (h:QD t w D A T v) (a b:Nat) (ha:D.1.natAbs<2^a) (hb:D.2≤b):QD t w D (a+(T+b)) T v:=by
 obtain ⟨x,n,ao,cap,h1,h2,h3,h4,h5⟩:=h
 refine ⟨x,n,ao,cap,h1,h2,h3,?_,h5⟩
 obtain ⟨k,k1,k2⟩:=nrm_rep x (-(n:Int))
 rw [h3] at k1 k2
 by_cases hx:x=0
 ·rw [hx];exact Nat.two_pow_pos _
 ·have:=k2 hx
  rw [k1,natAbs_mul_pw,Nat.pow_add]
  exact Nat.lt_of_lt_of_le (Nat.mul_lt_mul_of_pos_right ha (Nat.two_pow_pos _)) (Nat.mul_le_mul_left _ (Nat.pow_le_pow_right (by omega) (by omega)))
theorem QW.stored {tq ti:TypeId} {w0 wn:World} {g:Nat} {D:Dy} {A T:Nat} {X:Int} {n:Nat} {ao:Option Addr} {cap:Nat} {b:Bool} {v:Value} {k:Int} (hne:tq≠ti) (hb:Below w0.heap.size w0 wn) (hg:w0.heap.size≤g) (z:QL tq wn g b v k) (h:QD ti wn D A T (.agg #[.bool (zneg X),.slice ao (zl X).length cap,.int .i64 (n:Int)])):
 Below w0.heap.size w0 (((wn.setCell ⟨g,0,none⟩ (.bool (zneg X))).setCell ⟨g,1,none⟩ (.slice ao (zl X).length cap)).setCell ⟨g,2,none⟩ (.int .i64 (n:Int)))∧QW tq ti (((wn.setCell ⟨g,0,none⟩ (.bool (zneg X))).setCell ⟨g,1,none⟩ (.slice ao (zl X).length cap)).setCell ⟨g,2,none⟩ (.int .i64 (n:Int))) g D A T X n ao cap:=by
 obtain ⟨x,m,a,c,h1,h2,h3,h4,h5⟩:=h
 refine ⟨Go.Ulp.Below.put3 hb hg _ _ _,z.put _ _ _,⟨x,m,a,c,h1,?_,h3,h4,h5⟩⟩
 exact h2.set3Q z hne _ _ _
def hfD (D:Dy) (n:Nat) (mode:Int):Dy:=mplD D (hfK D-4*(n:Int)) mode
def hfM (E:Dy) (n:Nat):Nat:=E.1.natAbs*2^(E.2-hfK E+4*(n:Int)).toNat
def hfT (x:Int) (n:Nat) (mode:Int):List UInt8:=hxT (negB x) n (hfM (hfD (fv x) n mode) n) (hfK (hfD (fv x) n mode))
def hfC (x:Int) (n:Nat):Bool:=mplC (fv x) (hfK (fv x)-4*(n:Int))
theorem hf_main (D:Dy) (n:Nat) (mode:Int) (hI:IsN D) (h:D.1≠0):
 (hfD D n mode).1≠0∧IsN (hfD D n mode)∧(hfK (hfD D n mode)=hfK D∨hfK (hfD D n mode)=hfK D+1)∧hfK (hfD D n mode)-4*(n:Int)≤(hfD D n mode).2∧(hfD D n mode).1.natAbs≤D.1.natAbs+1:=by
 unfold hfD mplD
 obtain ⟨L,hL⟩: ∃L,bl D.1.natAbs=L+1:=⟨bl D.1.natAbs-1,by have:=(bl_pos D.1.natAbs).2 (by omega);omega⟩
 have hKD:hfK D=(L:Int)+D.2:=by unfold hfK;rw [hL];omega
 by_cases hk:mulK D (hfK D-4*(n:Int))=true
 ·rw [if_pos hk,nrm_of_isN D hI]
  have hk2:=of_decide_eq_true hk
  exact ⟨h,hI,.inl rfl,by rcases hk2 with h2|h2<;>omega,by omega⟩
 ·rw [if_neg hk]
  have hk2: ¬(hfK D-4*(n:Int)≤D.2∨D.1=0):=fun hh=>hk (decide_eq_true hh)
  have hlt:D.2<hfK D-4*(n:Int):=by omega
  obtain ⟨p,hp⟩: ∃p,p=hfK D-4*(n:Int):=⟨_,rfl⟩
  rw [←hp] at hlt ⊢
  obtain ⟨j,hj⟩: ∃j:Nat,p-D.2=((j+1:Nat):Int):=⟨(p-D.2).toNat-1,by omega⟩
  rw [hj,cut_pos]
  have hLj:L=4*n+(j+1):=by omega
  have lo:2^L≤D.1.natAbs:=by
   have:=bl_le D.1.natAbs L
   omega
  have hi:D.1.natAbs<2^(L+1):=by rw [←hL];exact lt_bl _
  have q0:2^(4*n)≤D.1.natAbs/2^(j+1):=by
   rw [Nat.le_div_iff_mul_le (Nat.two_pow_pos _),←Nat.pow_add,←hLj];exact lo
  have q1:D.1.natAbs/2^(j+1)<2^(4*n+1):=by
   rw [Nat.div_lt_iff_lt_mul (Nat.two_pow_pos _),←Nat.pow_add,show 4*n+1+(j+1)=L+1 by omega];exact hi
  obtain ⟨q,hq⟩: ∃q,q=(if D.1.natAbs%2^(j+1)≠0∧upN (decide (D.1<0)) (decide (((D.1.natAbs/2^(j+1):Nat):Int)%2=1)) (cmpI ((D.1.natAbs%2^(j+1):Nat):Int) ((2^j:Nat):Int)) mode=true then D.1.natAbs/2^(j+1)+1 else D.1.natAbs/2^(j+1)):=⟨_,rfl⟩
  rw [←hq]
  have hqq:q=D.1.natAbs/2^(j+1)∨q=D.1.natAbs/2^(j+1)+1:=by rw [hq];split<;>simp
  have hdl:=Nat.div_le_self D.1.natAbs (2^(j+1))
  have hq0:0<q:=by have:=Nat.two_pow_pos (4*n);omega
  have hs0:sg (decide (D.1<0)) (q:Int)≠0:=by unfold sg;split<;>omega
  have hsa:(sg (decide (D.1<0)) (q:Int)).natAbs=q:=by rw [sg_abs];omega
  have hKE:=hfK_nrm (sg (decide (D.1<0)) (q:Int)) p hs0
  rw [hsa] at hKE
  have hb:=nrm_bd (sg (decide (D.1<0)) (q:Int)) p (bl q) (by rw [hsa];exact lt_bl q)
  have hle:(nrm (sg (decide (D.1<0)) (q:Int)) p).1.natAbs≤q:=by
   obtain ⟨k,h1,-⟩:=nrm_rep (sg (decide (D.1<0)) (q:Int)) p
   have h3:q=(nrm (sg (decide (D.1<0)) (q:Int)) p).1.natAbs*2^k:=by
    conv=>lhs;rw [←hsa,h1]
    exact natAbs_mul_pw _ _
   have:=Nat.le_mul_of_pos_right (nrm (sg (decide (D.1<0)) (q:Int)) p).1.natAbs (Nat.two_pow_pos k)
   omega
  have hne:(nrm (sg (decide (D.1<0)) (q:Int)) p).1≠0:=fun h=>hs0 ((nrm_zero_iff _ _).1 h)
  have h3:=hb.2
  refine ⟨hne,nrm_isN _ _,?_,?_,by omega⟩
  ·rw [hKE]
   have b0:4*n<bl q:=by have:=bl_le q (4*n);omega
   have b1:bl q≤4*n+2:=by
    rw [bl_le,Nat.pow_succ];omega
   omega
  ·rcases h3 with ⟨h4,-⟩|⟨h4,-⟩
   ·exact absurd h4 hne
   ·rw [hKE]
    have b1:bl q≤4*n+2:=by
     rw [bl_le,Nat.pow_succ];omega
    rcases Nat.lt_or_ge (bl q) (4*n+2) with hb2|hb2
    ·omega
    ·have hq2:q=2^(4*n+1):=by
      have:=bl_le q (4*n+1)
      omega
     have e1:sg (decide (D.1<0)) (q:Int)=sg (decide (D.1<0)) 1*pw (4*n+1):=by
      rw [hq2,sg_mul,Int.one_mul];rfl
     have hs1:(sg (decide (D.1<0)) 1).natAbs=1:=by rw [sg_abs];rfl
     rw [e1,nrm_scale,nrm_of_isN (sg (decide (D.1<0)) 1,p+((4*n+1:Nat):Int)) (.inr (by show (sg (decide (D.1<0)) 1).natAbs%2=1;omega))]
     show _≤p+((4*n+1:Nat):Int)
     omega
theorem hf_rest (E:Dy) (n:Nat) (X:Int) (S:Nat) (hI:IsN E) (h:E.1≠0) (hg:hfK E-4*(n:Int)≤E.2)
 (hX:nrm X (-(S:Int))=shD (addD (absD E) (negD (nrm 1 (hfK E)))) (4*(n:Int)-hfK E)):X/pw S=((hfM E n-16^n:Nat):Int)∧16^n≤hfM E n∧hfM E n<2*16^n:=by
 have e16:(16:Nat)^n=2^(4*n):=by rw [Nat.pow_mul]
 obtain ⟨s,hs⟩: ∃s,s=(E.2-hfK E+4*(n:Int)).toNat:=⟨_,rfl⟩
 have hM:hfM E n=E.1.natAbs*2^s:=by unfold hfM;rw [←hs]
 have hbl:bl (hfM E n)=4*n+1:=by
  rw [hM,bl_mul _ _ (by omega)]
  have:hfK E=(bl E.1.natAbs:Int)+E.2-1:=rfl
  omega
 have k1:2^(4*n)≤hfM E n:=by have:=bl_le (hfM E n) (4*n);omega
 have k2:hfM E n<2^(4*n+1):=by rw [←hbl];exact lt_bl _
 rw [Nat.pow_succ] at k2
 rw [e16]
 refine ⟨?_,k1,by omega⟩
 have a1:absD E=nrm ((E.1.natAbs:Nat):Int) E.2:=by
  rw [nrm_natAbs,nrm_of_isN E hI]
 have a2:negD (nrm 1 (hfK E))=nrm (-1) (hfK E):=(nrm_neg 1 _).symm
 rw [a1,a2,←nrm_add _ _ _ _ (hfK E-4*(n:Int)) (.inl hg) (.inl (by omega)),←nrm_shift] at hX
 have e1:sc ((E.1.natAbs:Nat):Int) E.2 (hfK E-4*(n:Int))=(hfM E n:Int):=by
  rw [sc_nat,hM];congr 3;omega
 have e2:sc (-1) (hfK E) (hfK E-4*(n:Int))= -((2^(4*n):Nat):Int):=by
  unfold sc
  rw [Int.neg_mul,Int.one_mul,pw_nat,show (hfK E-(hfK E-4*(n:Int))).toNat=4*n by omega]
 rw [e1,e2,show hfK E-4*(n:Int)+(4*(n:Int)-hfK E)= -(S:Int)+S by omega,←nrm_scale] at hX
 have hX:=nrm_inj hX
 have hp:=pw_pos S
 rw [hX,Int.mul_ediv_cancel _ (by omega)]
 omega
theorem hfC_iff (D:Dy) (n:Nat) (hI:IsN D) (h:D.1≠0):mplC D (hfK D-4*(n:Int))=decide (4*n+1<bl D.1.natAbs):=by
 have hodd:D.1.natAbs%2=1:=by rcases hI with ⟨h0,-⟩|h0;exact absurd h0 h;exact h0
 have hbp:=(bl_pos D.1.natAbs).2 (by omega)
 unfold mplC mulK
 have hKD:hfK D=(bl D.1.natAbs:Int)+D.2-1:=rfl
 by_cases h1:4*n+1<bl D.1.natAbs
 ·rw [decide_eq_true h1,if_neg (by rw [decide_eq_true_eq];omega)]
  unfold cutC
  rw [if_neg (by omega)]
  refine decide_eq_true ?_
  obtain ⟨j,hj⟩: ∃j,(hfK D-4*(n:Int)-D.2).toNat=j+1:=⟨(hfK D-4*(n:Int)-D.2).toNat-1,by omega⟩
  rw [hj]
  intro h2
  have h3:=Nat.div_add_mod D.1.natAbs (2^(j+1))
  rw [h2,Nat.pow_succ,Nat.mul_assoc,Nat.add_zero] at h3
  have:D.1.natAbs=2*(2^j*(D.1.natAbs/(2^j*2))):=by rw [Nat.mul_left_comm];exact h3.symm
  omega
 ·rw [decide_eq_false h1,if_pos (by rw [decide_eq_true_eq];omega)]
def hfN (D:Dy):Nat:=(bl D.1.natAbs-1+3)/4
theorem hfD_self (D:Dy) (n:Nat) (mode:Int) (hI:IsN D) (hn:hfN D≤n):hfD D n mode=D:=by
 have hKD:hfK D=(bl D.1.natAbs:Int)+D.2-1:=rfl
 unfold hfN at hn
 unfold hfD mplD mulK
 rw [if_pos (by rw [decide_eq_true_eq];omega),nrm_of_isN D hI]
theorem hxc_digit (n m:Nat) (h0:16^n≤m):hxD n (m-16^n)=hxD n m:=by
 obtain ⟨z,rfl⟩: ∃z,m=z+16^n:=⟨m-16^n,by omega⟩
 rw [Nat.add_sub_cancel]
 exact (hxD_add n z n (Nat.le_refl _)).symm
end Go.Ulp
