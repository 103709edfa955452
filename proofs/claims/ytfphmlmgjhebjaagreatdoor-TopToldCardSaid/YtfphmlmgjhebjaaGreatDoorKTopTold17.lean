/- TopTold: what the proof leans on, part 17 (Sy7 Re9 Hr0 Hr2 Hr1 Hr3). -/
import Derived.Shelf.Strings.SlTrimAscii
import Derived.Test.YtfphmlmgjhebjaaGreatDoorKTopTold2
import Derived.Test.YtfphmlmgjhebjaaGreatDoorKTopTold13
import Derived.Test.YtfphmlmgjhebjaaGreatDoorKTopTold15
import Derived.Test.YtfphmlmgjhebjaaGreatDoorKTopTold16
set_option linter.unusedVariables false
set_option linter.unusedSimpArgs false
namespace Go.Ulp
open Go.RowKit
def shT (d:List UInt8) (k:Int):List UInt8:=
 if k+(d.length:Int)-1< -5∨20<k+(d.length:Int)-1 then d.take 1++((if 1<d.length then 46::d.drop 1 else [])++101::pwrT (k+(d.length:Int)-1))
 else if 0≤k then d++List.replicate k.toNat 48
 else if 0≤k+(d.length:Int)-1 then d.take (k+(d.length:Int)).toNat++46::d.drop (k+(d.length:Int)).toNat
 else 48::46::(List.replicate (-(k+(d.length:Int))).toNat 48++d)
end Go.Ulp
namespace Go.Proofs.YtfphmlmgjhebjaaGreatDoor
open Go.RowKit Go.Ulp
set_option maxHeartbeats 2000000
set_option maxRecDepth 100000
theorem shText_zero (x:Int) (h0:0≤x) (h1:x<18446744073709551616) (hc:classOf x=1) (w:World):
 Calls Tryz.prog 35 #[.int .u64 x] w fun e w'=>e=.returned (.string (bsOf (dsh (negB x) [48])))∧Below w.heap.size w w':=by
 have CL:=hid (fun w=>class_any x h0 h1 w)
 rw [hc] at CL
 by_cases h:9223372036854775808≤x
 ·have hs:x/9223372036854775808=1:=by omega
  have HR:=hid (show dsh (negB x) [48]= [45,48] by unfold dsh;rw [if_pos (show negB x=true from decide_eq_true h)])
  go_enter Tryz.func35,Tryz.ntmps35
  go_wp2_with ((go_at_call 33;(with_reducible refine (CL.out _).mono ?_);rintro en w1 ⟨rfl,rfl⟩))
  go_ret
  exact ⟨by rw [HR.out];rfl,Below.refl _ _⟩
 ·have hs:x/9223372036854775808=0:=by omega
  have HR:=hid (show dsh (negB x) [48]= [48] by unfold dsh;rw [show negB x=false from decide_eq_false h];rfl)
  go_enter Tryz.func35,Tryz.ntmps35
  go_wp2_with ((go_at_call 33;(with_reducible refine (CL.out _).mono ?_);rintro en w1 ⟨rfl,rfl⟩))
  go_ret
  exact ⟨by rw [HR.out];rfl,Below.refl _ _⟩
theorem shText_val (x:Int) (h0:0≤x) (h1:x<18446744073709551616) (c5:classOf x≠5) (c4:classOf x≠4) (c1:classOf x≠1) (d:List UInt8) (k:Int) (hd:1≤d.length∧d.length≤2000) (hk: -3000≤k∧k≤3000)
 (SD: ∀w,Tab 1 w→Tab10 w→Calls Tryz.prog 90 #[.int .u64 x] w fun e w'=>e=.returned (.tuple #[.string (bsOf d),.int .i64 k,.int .i64 0])∧Below w.heap.size w w') (w:World) (hT:Tab 1 w) (hT10:Tab10 w):
 Calls Tryz.prog 35 #[.int .u64 x] w fun e w'=>e=.returned (.string (bsOf (dsh (negB x) (shT d k))))∧Below w.heap.size w w':=by
 have CL:=hid (fun w=>class_any x h0 h1 w)
 have e5:(classOf x==5)=false:=beq_eq_false_iff_ne.2 c5
 have e4:(classOf x==4)=false:=beq_eq_false_iff_ne.2 c4
 have e1:(classOf x==1)=false:=beq_eq_false_iff_ne.2 c1
 have n5:(classOf x !=5)=true:=by rw [bne,e5];rfl
 have SDD:=hid SD
 have HT:=hid hT
 have HT10:=hid hT10
 obtain ⟨S,hS⟩: ∃S:List UInt8,S=if negB x=true then [45] else []:=⟨_,rfl⟩
 have hSl:S.length≤1:=by rw [hS];split<;>simp
 have HDS:=hid (show ∀L,dsh (negB x) L=S++L from fun L=>by rw [hS];unfold dsh;split<;>rfl)
 have HSS:=hid hS
 rw [HDS.out]
 obtain ⟨p,hp⟩: ∃p,p=k+(d.length:Int)-1:=⟨_,rfl⟩
 have HP:=hid hp
 have hsz:=bs_size d
 have wA:IntKind.i64.wrap (k+(d.length:Int))=k+(d.length:Int):=IntWalk.i64_in _ (by omega)
 have wB:IntKind.i64.wrap (k+(d.length:Int)-1)=p:=by rw [IntWalk.i64_in _ (by omega)];exact hp.symm
 clear SD hT hT10 hS c5 c4 c1
 go_enter Tryz.func35,Tryz.ntmps35
 go_upto_region 2 with fail
 go_cut [3,16] (fun s3 s16 wx=>s3=.string ⟨#[]⟩∧s16=.bool (negB x)∧wx=w)
 case first=>as_aux_lemma=>
  by_cases h:9223372036854775808≤x
  ·have hs:x/9223372036854775808=1:=by omega
   have HN:=hid (show negB x=true from decide_eq_true h)
   clear h
   go_wp2_with ((go_at_call 33;(with_reducible refine (CL.out _).mono ?_);rintro en w1 ⟨rfl,rfl⟩))
   go_meet
   exact ⟨rfl,by rw [HN.out],rfl⟩
  ·have hs:x/9223372036854775808=0:=by omega
   have HN:=hid (show negB x=false from decide_eq_false h)
   clear h
   go_wp2_with ((go_at_call 33;(with_reducible refine (CL.out _).mono ?_);rintro en w1 ⟨rfl,rfl⟩))
   go_meet
   exact ⟨rfl,by rw [HN.out],rfl⟩
 case rest=>
  obtain ⟨rfl,rfl,hwc⟩:=hcut
  subst hwc
  go_upto_if 16 with fail
  go_cut [3] (fun s3 wx=>s3=.string (bsOf S)∧wx=wc)
  case first=>as_aux_lemma=>
   cases hng:negB x
   ·have H5:=hid (show S= [] by rw [HSS.out,hng];rfl)
    go_wp2_with fail
    go_meet
    exact ⟨by rw [H5.out];rfl,rfl⟩
   ·have H5:=hid (show S= [45] by rw [HSS.out,hng];rfl)
    go_wp2_with fail
    go_meet
    exact ⟨by rw [H5.out];rfl,rfl⟩
  case rest=>
   obtain ⟨rfl,hwc⟩:=hcut
   subst hwc
   clear hp HSS
   go_upto_region 14 with (first|(go_at_call 33;(with_reducible refine (CL.out _).mono ?_);rintro en w1 ⟨rfl,rfl⟩)|(go_at_call 90;(with_reducible refine (SDD.out _ HT.out HT10.out).mono ?_);rintro en w2 ⟨rfl,hb2⟩))
   have yb2:=hb2
   clear hb2 CL SDD e5 e4 e1 n5 HT
   have HT2:=hid (HT10.out.below yb2)
   clear HT10
   obtain ⟨W2,hW2⟩: ∃W,W=w2:=⟨_,rfl⟩
   subst hW2
   have hpb: -4000≤p∧p≤6000:=by have:=HP.out;omega
   by_cases ho:p< -5∨20<p
   ·have HR:=hid (show S++shT d k=(S++(d.take 1++(if 1<d.length then 46::d.tail else [])))++101::pwrT p by
     unfold shT
     rw [←HP.out,if_pos ho,List.drop_one]
     simp)
    have PW:=hid (fun w h=>power_any p (by omega) w h)
    have s1:=slice_to (P:=Tryz.prog) Tryz.underlying9 d 1 (by omega) (by omega)
    rw [show (1:Int).toNat=1 from rfl] at s1
    have s2:=slice_from (P:=Tryz.prog) Tryz.underlying9 d 1 (by omega) (by omega)
    rw [show (1:Int).toNat=1 from rfl,List.drop_one] at s2
    have l1:(d.take 1).length≤1:=by rw [List.length_take];omega
    have l2:(d.tail).length≤2000:=by rw [List.length_tail];omega
    obtain ⟨F,hF⟩: ∃F,F=S++(d.take 1++(if 1<d.length then 46::d.tail else [])):=⟨_,rfl⟩
    have lF:F.length≤3000:=by
     rw [hF,List.length_append,List.length_append]
     split
     ·rw [List.length_cons];omega
     ·simp;omega
    have lp:(pwrT p).length≤3000:=by
     unfold pwrT
     have:(decD p.natAbs).length≤100:=decD_len_lt _ 100 (by have h9:10^4≤10^100:=Nat.pow_le_pow_right (by omega) (by omega);omega) (by omega)
     simp only [List.length_cons,List.length_append]
     split<;>simp<;>omega
    have ka1:=add_bs (P:=Tryz.prog) S (d.take 1) (by omega)
    have ka2: ∀w,(Op.stringOp .add ⟨#[46]⟩ (bsOf (d.tail))).run Tryz.prog w=.ok (.string (bsOf (46::d.tail))) w:=add_bs (P:=Tryz.prog) [46] (d.tail) (by simp;omega)
    have ka3: ∀w,(Op.stringOp .add (bsOf (S++d.take 1)) (bsOf (46::d.tail))).run Tryz.prog w=.ok (.string (bsOf (S++(d.take 1++46::d.tail)))) w:=by
     have h9:=add_bs (P:=Tryz.prog) (S++d.take 1) (46::d.tail) (by rw [List.length_append,List.length_cons];omega)
     rwa [List.append_assoc] at h9
    have ka4: ∀w,(Op.stringOp .add (bsOf F) ⟨#[101]⟩).run Tryz.prog w=.ok (.string (bsOf (F++ [101]))) w:=add_bs (P:=Tryz.prog) F [101] (by simp;omega)
    have ka5: ∀w,(Op.stringOp .add (bsOf (F++ [101])) (bsOf (pwrT p))).run Tryz.prog w=.ok (.string (bsOf (F++101::pwrT p))) w:=by
     have h9:=add_bs (P:=Tryz.prog) (F++ [101]) (pwrT p) (by rw [List.length_append];simp;omega)
     rwa [List.append_assoc] at h9
    rw [←hF] at HR
    have HFF:=hid hF
    go_cut [41] (fun s41 wx=>s41=.bool true∧wx=W2)
    case first=>as_aux_lemma=>
     clear HFF hF HR
     by_cases a1:p< -5
     ·go_wp2_with fail
      go_meet
      exact ⟨rfl,rfl⟩
     ·have a2:20<p:=by omega
      go_wp2_with fail
      go_meet
      exact ⟨rfl,rfl⟩
    case rest=>
     obtain ⟨rfl,hwc⟩:=hcut
     subst hwc
     clear hF
     go_upto_if 53 with fail
     go_cut [3] (fun s3 wx=>s3=.string (bsOf F)∧wx=wc)
     case first=>as_aux_lemma=>
      by_cases hn:1<d.length
      ·have hn2:(1:Int)<(d.length:Int):=by omega
       have H5:=hid (show S++(d.take 1++46::d.tail)=F by rw [HFF.out,if_pos hn])
       clear HFF HR hn
       go_wp2_with fail
       go_meet
       exact ⟨by rw [H5.out],rfl⟩
      ·have hn2: ¬(1:Int)<(d.length:Int):=by omega
       have H5:=hid (show S++d.take 1=F by rw [HFF.out,if_neg hn,List.append_nil])
       clear HFF HR hn
       go_wp2_with fail
       go_meet
       exact ⟨by rw [H5.out],rfl⟩
     case rest=>
      obtain ⟨rfl,hwc⟩:=hcut
      subst hwc
      clear HFF ka1 ka2 ka3 s1 s2 l1 l2
      go_wp2_with (go_at_call 91;(with_reducible refine (PW.out _ HT2.out).mono ?_);rintro en w5 ⟨rfl,hb5⟩)
      go_ret
      exact ⟨by rw [HR.out];rfl,below_trans yb2 hb5⟩
   ·have q1: ¬p< -5:=fun h=>ho (.inl h)
    have q2: ¬20<p:=fun h=>ho (.inr h)
    by_cases hk0:0≤k
    ·obtain ⟨K,hK⟩:=Int.eq_ofNat_of_zero_le hk0
     have HR:=hid (show S++shT d k=S++(d++List.replicate K 48) by
      unfold shT
      rw [←HP.out,if_neg ho,if_pos hk0,show k.toNat=K by omega])
     have RE:=hid (fun w=>repeat_any 48 K (by omega) w)
     have b48:(ByteArray.mk #[48])=bsOf [48]:=rfl
     have ka1:=add_bs (P:=Tryz.prog) S d (by omega)
     have ka2: ∀w,(Op.stringOp .add (bsOf (S++d)) (bsOf (List.replicate K 48))).run Tryz.prog w=.ok (.string (bsOf (S++(d++List.replicate K 48)))) w:=by
      have h9:=add_bs (P:=Tryz.prog) (S++d) (List.replicate K 48) (by rw [List.length_append,List.length_replicate];omega)
      rwa [List.append_assoc] at h9
     subst hK
     clear ho
     go_wp2_with (go_at_call 70;(with_reducible refine (RE.out _).mono ?_);rintro en w5 ⟨rfl,hb5⟩)
     go_ret
     exact ⟨by rw [HR.out];rfl,below_trans yb2 hb5⟩
    ·by_cases hp0:0≤p
     ·obtain ⟨m,hm⟩: ∃m:Nat,(m:Int)=p+1:=⟨(p+1).toNat,by omega⟩
      have hml:m≤d.length:=by have:=HP.out;omega
      have HR:=hid (show S++shT d k=S++(d.take m++46::d.drop m) by
       unfold shT
       rw [←HP.out,if_neg ho,if_neg hk0,if_pos hp0,show (k+(d.length:Int)).toNat=m by have:=HP.out;omega])
      have s1:=slice_to (P:=Tryz.prog) Tryz.underlying9 d (m:Int) (by omega) (by omega)
      have s2:=slice_from (P:=Tryz.prog) Tryz.underlying9 d (m:Int) (by omega) (by omega)
      rw [Int.toNat_natCast] at s1 s2
      have t1:(d.take m).length≤2000:=by rw [List.length_take];omega
      have t2:(d.drop m).length≤2000:=by rw [List.length_drop];omega
      have ka1:=add_bs (P:=Tryz.prog) S (d.take m) (by omega)
      have ka2: ∀w,(Op.stringOp .add (bsOf (S++d.take m)) ⟨#[46]⟩).run Tryz.prog w=.ok (.string (bsOf (S++(d.take m++ [46])))) w:=by
       have h9:=add_bs (P:=Tryz.prog) (S++d.take m) [46] (by rw [List.length_append];simp;omega)
       rw [List.append_assoc] at h9;exact h9
      have ka3: ∀w,(Op.stringOp .add (bsOf (S++(d.take m++ [46]))) (bsOf (d.drop m))).run Tryz.prog w=.ok (.string (bsOf (S++(d.take m++46::d.drop m)))) w:=by
       have h9:=add_bs (P:=Tryz.prog) (S++(d.take m++ [46])) (d.drop m) (by rw [List.length_append,List.length_append];simp;omega)
       rw [List.append_assoc,List.append_assoc] at h9;exact h9
      have wq:IntKind.i64.wrap (p+1)=(m:Int):=by rw [IntWalk.i64_in _ (by omega)];exact hm.symm
      clear ho hm t1 t2 HT2
      go_upto_region 22 with fail
      refine wp_region_grow 13 [76,77,78,79,80,81,82,83,84,85,86,87,2] [Fact.is (.string (bsOf S)),Fact.is (.string (bsOf d)),Fact.is (.int .i64 p),Fact.is (.int .i64 (m:Int)),Fact.is (.string (bsOf (d.take m))),Fact.is (.string (bsOf (S++d.take m))),Fact.is (.string (bsOf (S++(d.take m++ [46])))),Fact.is (.string (bsOf d)),Fact.is (.int .i64 p),Fact.is (.int .i64 (m:Int)),Fact.is (.string (bsOf (d.drop m))),Fact.is (.string (bsOf (S++(d.take m++46::d.drop m)))),Fact.is (.string (bsOf (S++(d.take m++46::d.drop m))))] (by kernel_rfl) (by kernel_rfl) ⟨?o0,?o1,?o2,?o3,?o4,?o5,?o6,?o7,?o8,?o9,?o10,?o11,?o12,trivial⟩ ?after
      case o0=>(refine oQ rfl ?_;intro ρ w1 R hcon hfn hρ hb hp hR;have e3:ρ (.tmp 3)=.string (bsOf S):=hρ.tmp 3 rfl;clear hρ hp;unfold OpRun;go_simp;exact hR _ _ (Below.refl _ _) rfl)
      case o1=>(refine oQ rfl ?_;intro ρ w1 R hcon hfn hρ hb hp hR;have e4:ρ (.tmp 4)=.string (bsOf d):=hρ.tmp 4 rfl;clear hρ hp;unfold OpRun;go_simp;exact hR _ _ (Below.refl _ _) rfl)
      case o2=>(refine oQ rfl ?_;intro ρ w1 R hcon hfn hρ hb hp hR;have e8:ρ (.tmp 8)=.int .i64 p:=hρ.tmp 8 rfl;clear hρ hp;unfold OpRun;go_simp;exact hR _ _ (Below.refl _ _) rfl)
      case o3=>(refine oQ rfl ?_;intro ρ w1 R hcon hfn hρ hb hp hR;have e78:ρ (.tmp 78)=_:=hp 2 78 rfl rfl;clear hρ hp;unfold OpRun;go_simp;exact hR _ _ (Below.refl _ _) rfl)
      case o4=>(refine oQ rfl ?_;intro ρ w1 R hcon hfn hρ hb hp hR;have e77:ρ (.tmp 77)=_:=hp 1 77 rfl rfl;have e79:ρ (.tmp 79)=_:=hp 3 79 rfl rfl;clear hρ hp;unfold OpRun;go_simp;exact hR _ _ (Below.refl _ _) rfl)
      case o5=>(refine oQ rfl ?_;intro ρ w1 R hcon hfn hρ hb hp hR;have e76:ρ (.tmp 76)=_:=hp 0 76 rfl rfl;have e80:ρ (.tmp 80)=_:=hp 4 80 rfl rfl;clear hρ hp;unfold OpRun;go_simp;exact hR _ _ (Below.refl _ _) rfl)
      case o6=>(refine oQ rfl ?_;intro ρ w1 R hcon hfn hρ hb hp hR;have e81:ρ (.tmp 81)=_:=hp 5 81 rfl rfl;clear hρ hp;unfold OpRun;go_simp;exact hR _ _ (Below.refl _ _) rfl)
      case o7=>(refine oQ rfl ?_;intro ρ w1 R hcon hfn hρ hb hp hR;have e4:ρ (.tmp 4)=.string (bsOf d):=hρ.tmp 4 rfl;clear hρ hp;unfold OpRun;go_simp;exact hR _ _ (Below.refl _ _) rfl)
      case o8=>(refine oQ rfl ?_;intro ρ w1 R hcon hfn hρ hb hp hR;have e8:ρ (.tmp 8)=.int .i64 p:=hρ.tmp 8 rfl;clear hρ hp;unfold OpRun;go_simp;exact hR _ _ (Below.refl _ _) rfl)
      case o9=>(refine oQ rfl ?_;intro ρ w1 R hcon hfn hρ hb hp hR;have e84:ρ (.tmp 84)=_:=hp 8 84 rfl rfl;clear hρ hp;unfold OpRun;go_simp;exact hR _ _ (Below.refl _ _) rfl)
      case o10=>(refine oQ rfl ?_;intro ρ w1 R hcon hfn hρ hb hp hR;have e83:ρ (.tmp 83)=_:=hp 7 83 rfl rfl;have e85:ρ (.tmp 85)=_:=hp 9 85 rfl rfl;clear hρ hp;unfold OpRun;go_simp;exact hR _ _ (Below.refl _ _) rfl)
      case o11=>(refine oQ rfl ?_;intro ρ w1 R hcon hfn hρ hb hp hR;have e82:ρ (.tmp 82)=_:=hp 6 82 rfl rfl;have e86:ρ (.tmp 86)=_:=hp 10 86 rfl rfl;clear hρ hp;unfold OpRun;go_simp;exact hR _ _ (Below.refl _ _) rfl)
      case o12=>(refine oQ rfl ?_;intro ρ w1 R hcon hfn hρ hb hp hR;have e87:ρ (.tmp 87)=_:=hp 11 87 rfl rfl;clear hρ hp;unfold OpRun;go_simp;exact hR _ _ (Below.refl _ _) rfl)
      case after=>
       intro u wn hb hf
       have e2:u 2=_:=hf 12 2 (by omega) rfl
       clear hf
       simp only [putAll,Act.put,List.setIfInBounds_toArray,List.set_cons_zero,List.set_cons_succ,List.drop_succ_cons,List.drop_zero,List.drop_nil]
       rw [e2]
       go_wp2_with fail
       go_ret
       exact ⟨by rw [HR.out];rfl,below_trans yb2 hb⟩
     ·obtain ⟨J,hJ⟩: ∃J:Nat,(J:Int)= -p-1:=⟨(-p-1).toNat,by omega⟩
      have HR:=hid (show S++shT d k=S++48::46::(List.replicate J 48++d) by
       unfold shT
       rw [←HP.out,if_neg ho,if_neg hk0,if_neg hp0,show (-(k+(d.length:Int))).toNat=J by have:=HP.out;omega])
      have RE:=hid (fun w=>repeat_any 48 J (by omega) w)
      have b48:(ByteArray.mk #[48])=bsOf [48]:=rfl
      have ka1: ∀w,(Op.stringOp .add (bsOf S) ⟨#[48,46]⟩).run Tryz.prog w=.ok (.string (bsOf (S++ [48,46]))) w:=add_bs (P:=Tryz.prog) S [48,46] (by simp;omega)
      have ka2: ∀w,(Op.stringOp .add (bsOf (S++ [48,46])) (bsOf (List.replicate J 48))).run Tryz.prog w=.ok (.string (bsOf (S++48::46::List.replicate J 48))) w:=by
       have h9:=add_bs (P:=Tryz.prog) (S++ [48,46]) (List.replicate J 48) (by rw [List.length_append,List.length_replicate];simp;omega)
       rwa [List.append_assoc] at h9
      have ka3: ∀w,(Op.stringOp .add (bsOf (S++48::46::List.replicate J 48)) (bsOf d)).run Tryz.prog w=.ok (.string (bsOf (S++48::46::(List.replicate J 48++d)))) w:=by
       have h9:=add_bs (P:=Tryz.prog) (S++48::46::List.replicate J 48) d (by rw [List.length_append,List.length_cons,List.length_cons,List.length_replicate];omega)
       rwa [List.append_assoc] at h9
      have wp1:IntKind.i64.wrap (-p)= -p:=IntWalk.i64_in _ (by omega)
      have wp2:IntKind.i64.wrap (-p-1)=(J:Int):=by rw [IntWalk.i64_in _ (by omega)];exact hJ.symm
      clear ho hJ
      go_wp2_with (go_at_call 70;(with_reducible refine (RE.out _).mono ?_);rintro en w5 ⟨rfl,hb5⟩)
      go_ret
      exact ⟨by rw [HR.out];rfl,below_trans yb2 hb5⟩
end Go.Proofs.YtfphmlmgjhebjaaGreatDoor
namespace Go.Ulp
open Go.RowKit
def rdT (L:List UInt8):List UInt8:=Lib.trimPrefix L [45]
def rPt (R:List UInt8):Bool:=Lib.hasPrefix R [46]
def rPart (R:List UInt8):List UInt8:=if rPt R=true then tkD (R.drop 1) else []
def rRest (R:List UInt8):List UInt8:=if rPt R=true then dpD (R.drop 1) else R
def rAll (L:List UInt8):List UInt8:=tkD (rdT L)++rPart (dpD (rdT L))
def rPw (L:List UInt8):List UInt8:=rRest (dpD (rdT L))
def rD (L:List UInt8):List UInt8:=(rAll L).dropWhile fun b=>b==48
def rdE (L:List UInt8):Int:=if 1000<L.length then 2 else if pwO (rPw L)=false∨rAll L= [] then 5 else 0
def rdN (L:List UInt8):Bool:=if rdE L=0 then Lib.hasPrefix L [45] else false
def rdD (L:List UInt8):List UInt8:=if rdE L=0 then rD L else []
def rdK (L:List UInt8):Int:=if rdE L=0∧rD L≠ [] then pwV (rPw L)-((rPart (dpD (rdT L))).length:Int) else 0
theorem trimPrefix_len (L p:List UInt8):(Lib.trimPrefix L p).length≤L.length:=by unfold Lib.trimPrefix;split<;>simp
theorem trimPrefix_one (R:List UInt8) (c:UInt8):Lib.trimPrefix R [c]=if Lib.hasPrefix R [c]=true then R.drop 1 else R:=rfl
def RetPz (n:Bool) (D:List UInt8) (k x:Int) (w:World) (e:Ending) (w':World):Prop:=e=.returned (.tuple #[.bool n,.string (bsOf D),.int .i64 k,.int .i64 x])∧Below w.heap.size w w'
theorem ret4 {fn:Func} {t u v x:Tmp} (h:fn.results= #[.tmp t,.tmp u,.tmp v,.tmp x]) (tmps:Array Value) (P:Program) (w:World):
 (results fn tmps).run P w=.ok (.tuple #[tmps.getD t undef,tmps.getD u undef,tmps.getD v undef,tmps.getD x undef]) w:=by
 simp [results,h]
end Go.Ulp
namespace Go.Proofs.YtfphmlmgjhebjaaGreatDoor
open Go.RowKit Go.Ulp
set_option maxHeartbeats 4000000
set_option maxRecDepth 100000
theorem parse_long (L:List UInt8) (w:World) (hl:1000<L.length) (h2:L.length≤9223372036854775807):
 Calls Tryz.prog 88 #[.string (bsOf L)] w (RetPz false [] 0 2 w):=by
 have hsz:=bs_size L
 generalize bsOf L=Q at *
 go_enter Tryz.func88,Tryz.ntmps88
 go_wp2_with fail
 (try simp only [Exit.inBlock,Exit.then]);refine bodyPost_ret (ret4 rfl _ _ _) rfl ?_
 exact ⟨rfl,Below.refl _ _⟩
theorem parse_core (L T W R PA RE A D:List UInt8) (neg pt ok:Bool) (K:Int) (v0:Bool) (v1:List UInt8) (v2 v3:Int) (w:World) (hl:L.length≤1000)
 (eT:rdT L=T) (en:Lib.hasPrefix L [45]=neg) (eW:tkD T=W) (eR:dpD T=R) (ep:rPt R=pt) (eP:rPart R=PA) (eE:rRest R=RE) (ek:pwV RE=K) (eo:pwO RE=ok) (eA:W++PA=A) (eD:(A.dropWhile fun b=>b==48)=D)
 (c1:ok=false→v0=false∧v1= []∧v2=0∧v3=5) (c2:ok=true→A= []→v0=false∧v1= []∧v2=0∧v3=5)
 (c3:ok=true→A≠ []→D= []→v0=neg∧v1= []∧v2=0∧v3=0) (c4:ok=true→A≠ []→D≠ []→v0=neg∧v1=D∧v2=K-(PA.length:Int)∧v3=0):
 Calls Tryz.prog 88 #[.string (bsOf L)] w (RetPz v0 v1 v2 v3 w):=by
 have hsz:=bs_size L
 have lT:T.length≤1000:=by rw [←eT];exact Nat.le_trans (trimPrefix_len L [45]) hl
 have lW:W.length≤1000:=by rw [←eW];exact Nat.le_trans (tk_len T) lT
 have lR:R.length≤1000:=by have:=dp_len T;rw [eR] at this;omega
 have lP:PA.length≤1000:=by
  rw [←eP];unfold rPart;split
  ·refine Nat.le_trans (tk_len _) ?_;rw [List.length_drop];omega
  ·simp
 have lE:RE.length≤1000:=by
  rw [←eE];unfold rRest;split
  ·have:=dp_len (R.drop 1);rw [List.length_drop] at this;omega
  ·exact lR
 have C1:=hid (show ∀w,Calls Tryz.prog 64 #[.string (bsOf L),.string ⟨#[45]⟩] w fun e w'=>e=.returned (.tuple #[.string (bsOf T),.bool neg])∧w'=w from fun w=>by
  have h:=Tryz.strings_CutPrefix (bsOf L) ⟨#[45]⟩ w
  rw [bs_list] at h;rw [←eT,←en];exact h)
 have C2:=hid (show ∀w,Calls Tryz.prog 64 #[.string (bsOf R),.string ⟨#[46]⟩] w fun e w'=>e=.returned (.tuple #[.string (bsOf (Lib.trimPrefix R [46])),.bool pt])∧w'=w from fun w=>by
  have h:=Tryz.strings_CutPrefix (bsOf R) ⟨#[46]⟩ w
  rw [bs_list] at h;rw [←ep];exact h)
 have D1:=hid (fun w=>digitsP_any T w (by omega))
 have D2:=hid (fun w=>digitsP_any (Lib.trimPrefix R [46]) w (by have:=trimPrefix_len R [46];omega))
 have S1:=slice_to (P:=Tryz.prog) Tryz.underlying9 T ((tkD T).length:Int) (by omega) (by have:=tk_len T;omega)
 have S2:=slice_from (P:=Tryz.prog) Tryz.underlying9 T ((tkD T).length:Int) (by omega) (by have:=tk_len T;omega)
 rw [Int.toNat_natCast,take_tk,eW] at S1
 rw [Int.toNat_natCast,drop_tk,eW,eR] at S2
 obtain ⟨R1,hR1⟩: ∃R1,R1=Lib.trimPrefix R [46]:=⟨_,rfl⟩
 have S3:=slice_to (P:=Tryz.prog) Tryz.underlying9 R1 ((tkD R1).length:Int) (by omega) (by have:=tk_len R1;omega)
 have S4:=slice_from (P:=Tryz.prog) Tryz.underlying9 R1 ((tkD R1).length:Int) (by omega) (by have:=tk_len R1;omega)
 rw [Int.toNat_natCast,take_tk] at S3
 rw [Int.toNat_natCast,drop_tk] at S4
 have hP:pt=true→tkD R1=PA∧dpD R1=RE:=fun h=>by
  have e1:R1=R.drop 1:=by rw [hR1,trimPrefix_one,if_pos (by rw [←h,←ep];rfl)]
  rw [e1,←eP,←eE]
  unfold rPart rRest
  rw [ep,if_pos h,if_pos h]
  exact ⟨rfl,rfl⟩
 have hP0:pt=false→PA= []∧RE=R:=fun h=>by
  rw [←eP,←eE]
  unfold rPart rRest
  rw [ep,h]
  exact ⟨rfl,rfl⟩
 have PW:=hid (fun w=>powerP_any RE w (by omega))
 rw [ek,eo] at PW
 have ka:=add_bs (P:=Tryz.prog) W PA (by omega)
 rw [eA] at ka
 have TZ:=hid (fun w=>trimZ_any A w)
 rw [eD] at TZ
 have hKb:=pwV_bd RE
 rw [ek] at hKb
 have hAe:(bsOf A).toList.isEmpty=A.isEmpty:=by rw [bs_toList]
 have hDe:(bsOf D).toList.isEmpty=D.isEmpty:=by rw [bs_toList]
 have hPz:=bs_size PA
 have hw:IntKind.i64.wrap (K-(PA.length:Int))=K-(PA.length:Int):=IntWalk.i64_in _ (by omega)
 rw [eW] at D1
 rw [←hR1] at D2 C2
 obtain ⟨n,hn⟩: ∃n,n=W.length:=⟨_,rfl⟩
 obtain ⟨n1,hn1⟩: ∃n1,n1=(tkD R1).length:=⟨_,rfl⟩
 rw [←hn] at D1 S1 S2
 rw [←hn1] at D2 S3 S4
 clear hn hn1 eT en eW eR ep eP eE ek eo eA eD lT lW lR lE hR1
 go_enter Tryz.func88,Tryz.ntmps88
 go_upto_region 5 with (first
  |(go_at_call 64;(with_reducible refine (C1.out _).mono ?_);rintro en w1 ⟨rfl,rfl⟩)
  |(go_at_call 153;(with_reducible refine (D1.out _).mono ?_);rintro en w1 ⟨rfl,hb1⟩))
 go_region
 have hb2:=hb1.drew
 obtain ⟨w2,hw2⟩: ∃w2,w2=w1.drew:=⟨_,rfl⟩
 rw [←hw2] at hb2 ⊢
 clear hw2 hb1 S1 S2 D1 C1
 cases pt
 ·obtain ⟨e1,e2⟩:=hP0 rfl
  subst e2
  subst e1
  have ka2: ∀w,(Op.stringOp .add (bsOf W) ⟨#[]⟩).run Tryz.prog w=.ok (.string (bsOf A)) w:=ka
  rw [show K-(([]:List UInt8).length:Int)=K by simp] at c4 hw
  clear hP hP0 S3 S4 D2 ka hPz
  go_upto_region 10 with (first|(go_at_call 64;(with_reducible refine (C2.out _).mono ?_);rintro en w3 ⟨rfl,rfl⟩)|(go_at_call 153;(with_reducible refine (D2.out _).mono ?_);rintro en w4 ⟨rfl,hb4⟩)|(go_at_call 154;(with_reducible refine (PW.out _).mono ?_);rintro en w5 ⟨rfl,hb5⟩)|(go_at_call 155;(with_reducible refine (TZ.out _).mono ?_);rintro en w6 ⟨rfl,rfl⟩))
  cases ok
  ·obtain ⟨rfl,rfl,rfl,rfl⟩:=c1 rfl
   clear hAe hDe c1 c2 c3 c4
   go_wp2_with (first|(go_at_call 64;(with_reducible refine (C2.out _).mono ?_);rintro en w3 ⟨rfl,rfl⟩)|(go_at_call 153;(with_reducible refine (D2.out _).mono ?_);rintro en w4 ⟨rfl,hb4⟩)|(go_at_call 154;(with_reducible refine (PW.out _).mono ?_);rintro en w5 ⟨rfl,hb5⟩)|(go_at_call 155;(with_reducible refine (TZ.out _).mono ?_);rintro en w6 ⟨rfl,rfl⟩))
   (try simp only [Exit.inBlock,Exit.then]);refine bodyPost_ret (ret4 rfl _ _ _) rfl ?_
   exact ⟨rfl,by (repeat' first|(with_reducible first|assumption|apply bR|apply bA|apply bN|apply bD|apply bL|apply bS)|refine bT ?_ (by assumption)|go_size)⟩
  ·by_cases hA:A= []
   ·obtain ⟨rfl,rfl,rfl,rfl⟩:=c2 rfl hA
    have hAe2:(bsOf A).toList.isEmpty=true:=by rw [hAe,hA];rfl
    clear hAe c1 c2 c3 c4 hA
    go_wp2_with (first|(go_at_call 64;(with_reducible refine (C2.out _).mono ?_);rintro en w3 ⟨rfl,rfl⟩)|(go_at_call 153;(with_reducible refine (D2.out _).mono ?_);rintro en w4 ⟨rfl,hb4⟩)|(go_at_call 154;(with_reducible refine (PW.out _).mono ?_);rintro en w5 ⟨rfl,hb5⟩)|(go_at_call 155;(with_reducible refine (TZ.out _).mono ?_);rintro en w6 ⟨rfl,rfl⟩))
    (try simp only [Exit.inBlock,Exit.then]);refine bodyPost_ret (ret4 rfl _ _ _) rfl ?_
    exact ⟨rfl,by (repeat' first|(with_reducible first|assumption|apply bR|apply bA|apply bN|apply bD|apply bL|apply bS)|refine bT ?_ (by assumption)|go_size)⟩
   ·have hAe2:(bsOf A).toList.isEmpty=false:=by rw [hAe];exact List.isEmpty_eq_false_iff.2 hA
    by_cases hD:D= []
    ·have hDe2:(bsOf D).toList.isEmpty=true:=by rw [hDe,hD];rfl
     obtain ⟨rfl,rfl,rfl,rfl⟩:=c3 rfl hA hD
     clear hAe hDe c1 c2 c3 c4 hA hD
     go_wp2_with (first|(go_at_call 64;(with_reducible refine (C2.out _).mono ?_);rintro en w3 ⟨rfl,rfl⟩)|(go_at_call 153;(with_reducible refine (D2.out _).mono ?_);rintro en w4 ⟨rfl,hb4⟩)|(go_at_call 154;(with_reducible refine (PW.out _).mono ?_);rintro en w5 ⟨rfl,hb5⟩)|(go_at_call 155;(with_reducible refine (TZ.out _).mono ?_);rintro en w6 ⟨rfl,rfl⟩))
     (try simp only [Exit.inBlock,Exit.then]);refine bodyPost_ret (ret4 rfl _ _ _) rfl ?_
     exact ⟨rfl,by (repeat' first|(with_reducible first|assumption|apply bR|apply bA|apply bN|apply bD|apply bL|apply bS)|refine bT ?_ (by assumption)|go_size)⟩
    ·have hDe2:(bsOf D).toList.isEmpty=false:=by rw [hDe];exact List.isEmpty_eq_false_iff.2 hD
     obtain ⟨rfl,rfl,rfl,rfl⟩:=c4 rfl hA hD
     clear hAe hDe c1 c2 c3 c4 hA hD
     go_wp2_with (first|(go_at_call 64;(with_reducible refine (C2.out _).mono ?_);rintro en w3 ⟨rfl,rfl⟩)|(go_at_call 153;(with_reducible refine (D2.out _).mono ?_);rintro en w4 ⟨rfl,hb4⟩)|(go_at_call 154;(with_reducible refine (PW.out _).mono ?_);rintro en w5 ⟨rfl,hb5⟩)|(go_at_call 155;(with_reducible refine (TZ.out _).mono ?_);rintro en w6 ⟨rfl,rfl⟩))
     (try simp only [Exit.inBlock,Exit.then]);refine bodyPost_ret (ret4 rfl _ _ _) rfl ?_
     exact ⟨rfl,by (repeat' first|(with_reducible first|assumption|apply bR|apply bA|apply bN|apply bD|apply bL|apply bS)|refine bT ?_ (by assumption)|go_size)⟩
 ·obtain ⟨e1,e2⟩:=hP rfl
  rw [e1] at S3
  rw [e2] at S4
  clear hP hP0 e1 e2
  go_upto_region 9 with (first|(go_at_call 64;(with_reducible refine (C2.out _).mono ?_);rintro en w3 ⟨rfl,rfl⟩)|(go_at_call 153;(with_reducible refine (D2.out _).mono ?_);rintro en w4 ⟨rfl,hb4⟩)|(go_at_call 154;(with_reducible refine (PW.out _).mono ?_);rintro en w5 ⟨rfl,hb5⟩)|(go_at_call 155;(with_reducible refine (TZ.out _).mono ?_);rintro en w6 ⟨rfl,rfl⟩))
  go_region
  have hb5:=hb4.drew
  obtain ⟨w5,hw5⟩: ∃w5,w5=w4.drew:=⟨_,rfl⟩
  rw [←hw5] at hb5 ⊢
  clear hw5
  cases ok
  ·obtain ⟨rfl,rfl,rfl,rfl⟩:=c1 rfl
   clear hAe hDe c1 c2 c3 c4
   go_wp2_with (first|(go_at_call 64;(with_reducible refine (C2.out _).mono ?_);rintro en w3 ⟨rfl,rfl⟩)|(go_at_call 153;(with_reducible refine (D2.out _).mono ?_);rintro en w4 ⟨rfl,hb4⟩)|(go_at_call 154;(with_reducible refine (PW.out _).mono ?_);rintro en w5 ⟨rfl,hb5⟩)|(go_at_call 155;(with_reducible refine (TZ.out _).mono ?_);rintro en w6 ⟨rfl,rfl⟩))
   (try simp only [Exit.inBlock,Exit.then]);refine bodyPost_ret (ret4 rfl _ _ _) rfl ?_
   exact ⟨rfl,by (repeat' first|(with_reducible first|assumption|apply bR|apply bA|apply bN|apply bD|apply bL|apply bS)|refine bT ?_ (by assumption)|go_size)⟩
  ·by_cases hA:A= []
   ·obtain ⟨rfl,rfl,rfl,rfl⟩:=c2 rfl hA
    have hAe2:(bsOf A).toList.isEmpty=true:=by rw [hAe,hA];rfl
    clear hAe c1 c2 c3 c4 hA
    go_wp2_with (first|(go_at_call 64;(with_reducible refine (C2.out _).mono ?_);rintro en w3 ⟨rfl,rfl⟩)|(go_at_call 153;(with_reducible refine (D2.out _).mono ?_);rintro en w4 ⟨rfl,hb4⟩)|(go_at_call 154;(with_reducible refine (PW.out _).mono ?_);rintro en w5 ⟨rfl,hb5⟩)|(go_at_call 155;(with_reducible refine (TZ.out _).mono ?_);rintro en w6 ⟨rfl,rfl⟩))
    (try simp only [Exit.inBlock,Exit.then]);refine bodyPost_ret (ret4 rfl _ _ _) rfl ?_
    exact ⟨rfl,by (repeat' first|(with_reducible first|assumption|apply bR|apply bA|apply bN|apply bD|apply bL|apply bS)|refine bT ?_ (by assumption)|go_size)⟩
   ·have hAe2:(bsOf A).toList.isEmpty=false:=by rw [hAe];exact List.isEmpty_eq_false_iff.2 hA
    by_cases hD:D= []
    ·have hDe2:(bsOf D).toList.isEmpty=true:=by rw [hDe,hD];rfl
     obtain ⟨rfl,rfl,rfl,rfl⟩:=c3 rfl hA hD
     clear hAe hDe c1 c2 c3 c4 hA hD
     go_wp2_with (first|(go_at_call 64;(with_reducible refine (C2.out _).mono ?_);rintro en w3 ⟨rfl,rfl⟩)|(go_at_call 153;(with_reducible refine (D2.out _).mono ?_);rintro en w4 ⟨rfl,hb4⟩)|(go_at_call 154;(with_reducible refine (PW.out _).mono ?_);rintro en w5 ⟨rfl,hb5⟩)|(go_at_call 155;(with_reducible refine (TZ.out _).mono ?_);rintro en w6 ⟨rfl,rfl⟩))
     (try simp only [Exit.inBlock,Exit.then]);refine bodyPost_ret (ret4 rfl _ _ _) rfl ?_
     exact ⟨rfl,by (repeat' first|(with_reducible first|assumption|apply bR|apply bA|apply bN|apply bD|apply bL|apply bS)|refine bT ?_ (by assumption)|go_size)⟩
    ·have hDe2:(bsOf D).toList.isEmpty=false:=by rw [hDe];exact List.isEmpty_eq_false_iff.2 hD
     obtain ⟨rfl,rfl,rfl,rfl⟩:=c4 rfl hA hD
     clear hAe hDe c1 c2 c3 c4 hA hD
     go_wp2_with (first|(go_at_call 64;(with_reducible refine (C2.out _).mono ?_);rintro en w3 ⟨rfl,rfl⟩)|(go_at_call 153;(with_reducible refine (D2.out _).mono ?_);rintro en w4 ⟨rfl,hb4⟩)|(go_at_call 154;(with_reducible refine (PW.out _).mono ?_);rintro en w5 ⟨rfl,hb5⟩)|(go_at_call 155;(with_reducible refine (TZ.out _).mono ?_);rintro en w6 ⟨rfl,rfl⟩))
     (try simp only [Exit.inBlock,Exit.then]);refine bodyPost_ret (ret4 rfl _ _ _) rfl ?_
     exact ⟨rfl,by (repeat' first|(with_reducible first|assumption|apply bR|apply bA|apply bN|apply bD|apply bL|apply bS)|refine bT ?_ (by assumption)|go_size)⟩
theorem parseP_any (L:List UInt8) (w:World) (hl:L.length≤9223372036854775807):
 Calls Tryz.prog 88 #[.string (bsOf L)] w (RetPz (rdN L) (rdD L) (rdK L) (rdE L) w):=by
 by_cases h:1000<L.length
 ·have e1:rdE L=2:=by unfold rdE;rw [if_pos h]
  have h9:=parse_long L w h hl
  unfold rdN rdD rdK
  rw [e1,if_neg (by omega),if_neg (by omega),if_neg (by omega)]
  exact h9
 ·have e1:rdE L=if pwO (rPw L)=false∨rAll L= [] then 5 else 0:=by unfold rdE;rw [if_neg h]
  refine parse_core L (rdT L) (tkD (rdT L)) (dpD (rdT L)) (rPart (dpD (rdT L))) (rPw L) (rAll L) (rD L) _ _ _ _ _ _ _ _ w (by omega) rfl rfl rfl rfl rfl rfl rfl rfl rfl rfl rfl ?_ ?_ ?_ ?_
  ·intro h1
   have e2:rdE L=5:=by rw [e1,if_pos (.inl h1)]
   unfold rdN rdD rdK
   rw [e2,if_neg (by omega),if_neg (by omega),if_neg (by omega)]
   exact ⟨rfl,rfl,rfl,rfl⟩
  ·intro _ h1
   have e2:rdE L=5:=by rw [e1,if_pos (.inr h1)]
   unfold rdN rdD rdK
   rw [e2,if_neg (by omega),if_neg (by omega),if_neg (by omega)]
   exact ⟨rfl,rfl,rfl,rfl⟩
  ·intro h1 h2 h3
   have e2:rdE L=0:=by rw [e1,if_neg (fun h9=>h9.elim (fun h=>by rw [h1] at h;cases h) h2)]
   unfold rdN rdD rdK
   rw [e2,if_pos rfl,if_pos rfl,if_neg (fun h=>h.2 h3)]
   exact ⟨rfl,h3,rfl,rfl⟩
  ·intro h1 h2 h3
   have e2:rdE L=0:=by rw [e1,if_neg (fun h9=>h9.elim (fun h=>by rw [h1] at h;cases h) h2)]
   unfold rdN rdD rdK
   rw [e2,if_pos rfl,if_pos rfl,if_pos ⟨rfl,h3⟩]
   exact ⟨rfl,rfl,rfl,rfl⟩
end Go.Proofs.YtfphmlmgjhebjaaGreatDoor
namespace Go.Ulp
open Go.RowKit
theorem drop_cons {L:List UInt8} {j:Nat} {b:UInt8} {r:List UInt8} (h:L.drop j=b::r):j<L.length∧L.drop (j+1)=r∧L.getD j 0=b:=by
 have h1:j<L.length:=by
  rcases Nat.lt_or_ge j L.length with h9|h9
  ·exact h9
  ·rw [List.drop_eq_nil_of_le h9] at h;cases h
 have h2:L.drop (j+1)=(L.drop j).drop 1:=by rw [List.drop_drop]
 refine ⟨h1,by rw [h2,h];rfl,?_⟩
 rw [List.drop_eq_getElem_cons h1] at h
 injection h with h3 _
 rw [List.getD_eq_getElem?_getD,List.getElem?_eq_getElem h1];exact h3
end Go.Ulp
namespace Go.Proofs.YtfphmlmgjhebjaaGreatDoor
open Go.RowKit Go.Ulp
set_option maxHeartbeats 2000000
set_option maxRecDepth 100000
end Go.Proofs.YtfphmlmgjhebjaaGreatDoor
namespace Go.Ulp
open Go.RowKit
def isHx (b:UInt8):Bool:=decide ((48≤b.toNat∧b.toNat≤57)∨(97≤b.toNat∧b.toNat≤102))
theorem hx_contains (b:UInt8): [48,49,50,51,52,53,54,55,56,57,97,98,99,100,101,102].contains b=isHx b:=by
 have: ∀n:Fin 256,[48,49,50,51,52,53,54,55,56,57,97,98,99,100,101,102].contains (UInt8.ofNat n.1)=isHx (UInt8.ofNat n.1):=by decide+kernel
 have h:=this ⟨b.toNat,b.toNat_lt⟩
 simpa using h
def AllHx (L:List UInt8):Prop:= ∀b∈L,isHx b=true
def HxGood (T W PA:List UInt8) (pt:Bool) (sg PW:List UInt8):Prop:=
 T=W++((if pt=true then 46::PA else [])++112::(sg++PW))∧AllHx W∧AllHx PA∧(pt=false→PA= [])∧W++PA≠ []∧(sg= []∨sg= [45]∨sg= [43])∧AllDg PW∧1≤PW.length∧PW.length≤5
def tkH (L:List UInt8):List UInt8:=L.takeWhile isHx
def dpH (L:List UInt8):List UInt8:=L.dropWhile isHx
def hxPt (T:List UInt8):Bool:=Lib.hasPrefix (dpH T) [46]
def hxPA (T:List UInt8):List UInt8:=if hxPt T=true then tkH ((dpH T).drop 1) else []
def hxR2 (T:List UInt8):List UInt8:=if hxPt T=true then dpH ((dpH T).drop 1) else dpH T
def hxR3 (T:List UInt8):List UInt8:=Lib.trimPrefix (hxR2 T) [112]
def hxDn (T:List UInt8):Bool:=Lib.hasPrefix (hxR3 T) [45]
def hxSg (T:List UInt8):Bool:=hxDn T||Lib.hasPrefix (hxR3 T) [43]
def hxR4 (T:List UInt8):List UInt8:=if hxSg T=true then (hxR3 T).drop 1 else hxR3 T
def hxOk (T:List UInt8):Bool:=Lib.hasPrefix (hxR2 T) [112]&&!(tkH T++hxPA T).isEmpty&&!(tkD (hxR4 T)).isEmpty&&decide ((tkD (hxR4 T)).length≤5)&&(dpD (hxR4 T)).isEmpty
theorem hpx_iff (L:List UInt8) (c:UInt8):Lib.hasPrefix L [c]=true↔ ∃r,L=c::r:=by
 cases L with
 |nil=>constructor
       ·intro h;simp [Lib.hasPrefix,List.isPrefixOf] at h
       ·rintro ⟨r,h⟩;cases h
 |cons b r=>
  simp only [Lib.hasPrefix,List.isPrefixOf,Bool.and_true,beq_iff_eq]
  constructor
  ·intro h;exact ⟨r,by rw [h]⟩
  ·rintro ⟨q,h⟩;injection h with h1 h2;exact h1.symm
theorem tw_app (p:UInt8→Bool) (A R:List UInt8) (hA: ∀b∈A,p b=true) (hR: ∀b r,R=b::r→p b=false):(A++R).takeWhile p=A∧(A++R).dropWhile p=R:=by
 induction A with
 |nil=>
  cases R with
  |nil=>exact ⟨rfl,rfl⟩
  |cons b r=>
   have:=hR b r rfl
   rw [List.nil_append,List.takeWhile_cons,List.dropWhile_cons,if_neg (by rw [this];decide),if_neg (by rw [this];decide)]
   exact ⟨rfl,rfl⟩
 |cons a t ih=>
  have h1:=hA a (List.mem_cons_self ..)
  obtain ⟨i1,i2⟩:=ih (fun b hb=>hA b (List.mem_cons_of_mem _ hb))
  rw [List.cons_append,List.takeWhile_cons,List.dropWhile_cons,if_pos h1,if_pos h1,i1,i2]
  exact ⟨rfl,rfl⟩
theorem tw_all (p:UInt8→Bool) (L:List UInt8): ∀b∈L.takeWhile p,p b=true:=by
 induction L with
 |nil=>intro b hb;cases hb
 |cons a t ih=>
  rw [List.takeWhile_cons]
  split
  ·intro b hb
   rcases List.mem_cons.1 hb with h|h
   ·rw [h];assumption
   ·exact ih b h
  ·intro b hb;cases hb
theorem hx_prog {T W PA:List UInt8} {pt:Bool} {sg PW:List UInt8} (h:HxGood T W PA pt sg PW):hxOk T=true∧tkH T=W∧hxPA T=PA∧tkD (hxR4 T)=PW∧hxDn T=decide (sg= [45]):=by
 obtain ⟨hT,hW,hP,hpt,hne,hsg,hd,h1,h5⟩:=h
 have e1:=tw_app isHx W ((if pt=true then 46::PA else [])++112::(sg++PW)) hW (fun b r h=>by
  cases pt
  ·rw [if_neg (by decide)] at h;injection h with h2 h3;rw [←h2];decide
  ·rw [if_pos rfl] at h;injection h with h2 h3;rw [←h2];decide)
 rw [←hT] at e1
 have tk:tkH T=W:=e1.1
 have dp:dpH T=(if pt=true then 46::PA else [])++112::(sg++PW):=e1.2
 have hpv:hxPt T=pt:=by
  unfold hxPt
  rw [dp]
  cases pt
  ·rw [Bool.eq_false_iff];intro h9
   obtain ⟨r,h8⟩:=(hpx_iff _ _).1 h9
   rw [if_neg (by decide)] at h8;injection h8 with h7;exact absurd h7 (by decide)
  ·exact (hpx_iff _ _).2 ⟨_,by rw [if_pos rfl];rfl⟩
 have e2:=tw_app isHx PA (112::(sg++PW)) hP (fun b r h=>by injection h with h2 h3;rw [←h2];decide)
 have pa:hxPA T=PA:=by
  unfold hxPA
  rw [hpv]
  cases pt
  ·rw [if_neg (by decide),hpt rfl]
  ·rw [if_pos rfl,dp,if_pos rfl];exact e2.1
 have r2:hxR2 T=112::(sg++PW):=by
  unfold hxR2
  rw [hpv]
  cases pt
  ·rw [if_neg (by decide),dp,if_neg (by decide)];rfl
  ·rw [if_pos rfl,dp,if_pos rfl];exact e2.2
 have r3:hxR3 T=sg++PW:=by
  unfold hxR3
  rw [r2,trimPrefix_one,if_pos ((hpx_iff _ _).2 ⟨_,rfl⟩)];rfl
 obtain ⟨b,q,hbq⟩: ∃b q,PW=b::q:=by
  cases PW with
  |nil=>exact absurd h1 (by decide)
  |cons b q=>exact ⟨b,q,rfl⟩
 have hb:=dg_bd (hd b (by rw [hbq];exact List.mem_cons_self ..))
 have nb: ∀c:UInt8,c.toNat<48→Lib.hasPrefix PW [c]=false:=fun c hc=>by
  rw [Bool.eq_false_iff];intro h9
  obtain ⟨r,h8⟩:=(hpx_iff _ _).1 h9
  rw [hbq] at h8;injection h8 with h7;rw [h7] at hb;omega
 have dn:hxDn T=decide (sg= [45]):=by
  unfold hxDn
  rw [r3]
  rcases hsg with h|h|h<;>subst h
  ·rw [List.nil_append,nb 45 (by decide)];rfl
  ·rw [List.singleton_append,(hpx_iff _ _).2 ⟨_,rfl⟩];rfl
  ·rw [List.singleton_append,Bool.eq_iff_iff];constructor
   ·intro h9;obtain ⟨r,h8⟩:=(hpx_iff _ _).1 h9;injection h8
   ·intro h9;exact absurd (of_decide_eq_true h9) (by decide)
 have r4:hxR4 T=PW:=by
  unfold hxR4 hxSg
  rw [dn,r3]
  rcases hsg with h|h|h<;>subst h
  ·rw [List.nil_append,nb 43 (by decide)];rfl
  ·rfl
  ·rw [List.singleton_append,(hpx_iff _ _).2 ⟨_,rfl⟩,Bool.or_true];rfl
 have e3:=tw_app isDg PW [] hd (fun b r h=>by cases h)
 rw [List.append_nil] at e3
 have tkd:tkD (hxR4 T)=PW:=by rw [r4];exact e3.1
 have dpd:dpD (hxR4 T)= []:=by rw [r4];exact e3.2
 refine ⟨?_,tk,pa,tkd,dn⟩
 unfold hxOk
 rw [tkd,dpd,tk,pa,r2,(hpx_iff _ _).2 ⟨_,rfl⟩,decide_eq_true h5,List.isEmpty_eq_false_iff.2 hne,hbq]
 rfl
theorem rdC_zeroH (K A B:Nat):rdC K A B 0≤0:=by
 unfold rdC
 have h0:rvs 0=0:=by rw [show (0:Int)=((0:Nat):Int) from rfl,rvs_nat9,rvi_zero]
 rw [h0,Int.zero_mul]
 have h1:0≤(A:Int)*pw K:=Int.mul_nonneg (by omega) (Int.le_of_lt (pw_pos K))
 generalize (A:Int)*pw K=q at *
 unfold cmpI
 split
 ·omega
 ·split<;>omega
theorem rd_exists (K A B T:Nat) (hT:0<T): ∃l:Nat,l<T∧rdC K A B l≤0∧(l+1=T∨0<rdC K A B ((l:Int)+1)):=by
 suffices H: ∀n:Nat,n≤T-1→rdC K A B ((T-1-n:Nat):Int)≤0→ ∃l:Nat,l<T∧rdC K A B l≤0∧(l+1=T∨0<rdC K A B ((l:Int)+1)) from
  H (T-1) (Nat.le_refl _) (by rw [Nat.sub_self];exact rdC_zeroH K A B)
 intro n
 induction n with
 |zero=>intro _ h;exact ⟨T-1-0,by omega,h,.inl (by omega)⟩
 |succ n ih=>
  intro hn h
  by_cases h1:0<rdC K A B (((T-1-(n+1):Nat):Int)+1)
  ·exact ⟨T-1-(n+1),by omega,h,.inr h1⟩
  ·refine ih (by omega) ?_
   rw [show ((T-1-n:Nat):Int)=((T-1-(n+1):Nat):Int)+1 by omega]
   omega
theorem num_same (neg:Bool) (A B M N:Nat) (e f mode:Int) (m0:0≤mode) (m1:mode≤4) (h1:RdOk A B M e) (h2:RdOk A B N f):numX neg M e mode=numX neg N f mode∧numC neg M e mode=numC neg N f mode:=by
 obtain ⟨l,l1,l2,l3⟩:=rd_exists 1074 A B 9218868437227405312 (by omega)
 obtain ⟨hM,s,hs,SC⟩:=h1
 obtain ⟨hN,t,ht,TC⟩:=h2
 have k1:(l:Int)<9218868437227405312:=by omega
 have k3:(l:Int)+1=9218868437227405312∨0<rdC 1074 A B ((l:Int)+1):=l3.elim (fun h=>.inl (by omega)) .inr
 obtain ⟨a1,a2⟩:=read_sg neg M e mode 1074 A B s l m0 m1 hM hs SC k1 l2 k3
 obtain ⟨b1,b2⟩:=read_sg neg N f mode 1074 A B t l m0 m1 hN ht TC k1 l2 k3
 exact ⟨a1.trans b1.symm,a2.trans b2.symm⟩
theorem far_high (M:Nat) (e:Int) (b:Nat) (hM:2^b≤M) (h:1900<(b:Int)+e):RdOk (2^1100) 1 M e:=by
 obtain ⟨F,hF,hF2⟩:=rvi_tv
 have hM0:0<M:=Nat.lt_of_lt_of_le (Nat.two_pow_pos b) hM
 obtain ⟨s,hs⟩: ∃s:Nat,s=(-e).toNat:=⟨_,rfl⟩
 obtain ⟨P,hP⟩: ∃P:Nat,P=1100:=⟨_,rfl⟩
 obtain ⟨Q,hQ⟩: ∃Q:Nat,Q=(e+1074+s).toNat:=⟨_,rfl⟩
 obtain ⟨K,hK⟩: ∃K:Nat,K=1074:=⟨_,rfl⟩
 have g2:rvi 9218868437227405312*1<2^P*2^K:=by
  rw [hF2,Nat.mul_one,←Nat.pow_add]
  exact Nat.pow_lt_pow_right (by omega) (by omega)
 rw [hK] at g2
 have g1:rvi 9218868437227405312*2^s<M*2^Q:=by
  rw [hF2,←Nat.pow_add]
  have h9:2^b*2^Q≤M*2^Q:=Nat.mul_le_mul_right _ hM
  rw [←Nat.pow_add] at h9
  exact Nat.lt_of_lt_of_le (Nat.pow_lt_pow_right (by omega) (by omega)) h9
 rw [←hP]
 refine ⟨hM0,s,by omega,?_⟩
 rw [←hQ]
 exact same_high s (M*2^Q) 1074 (2^P) 1 g1 g2
theorem far_low (M:Nat) (e:Int) (b:Nat) (hM0:0<M) (hM:M<2^b) (h:(b:Int)+e< -1900):RdOk 1 (2^2100) M e:=by
 obtain ⟨s,hs⟩: ∃s:Nat,s=(-e).toNat:=⟨_,rfl⟩
 obtain ⟨P,hP⟩: ∃P:Nat,P=2100:=⟨_,rfl⟩
 obtain ⟨K,hK⟩: ∃P:Nat,P=1074:=⟨_,rfl⟩
 obtain ⟨Q,hQ⟩: ∃Q:Nat,Q=(e+1074+s).toNat:=⟨_,rfl⟩
 have hp:0<2^Q:=Nat.two_pow_pos Q
 have g1:2*(M*2^Q)<2^s:=by
  have h9:M*2^Q<2^b*2^Q:=Nat.mul_lt_mul_of_pos_right hM hp
  rw [←Nat.pow_add] at h9
  have h8:2^(b+Q+1)≤2^s:=Nat.pow_le_pow_right (by omega) (by omega)
  rw [Nat.pow_succ] at h8
  omega
 have g2:2*(1*2^K)<2^P:=by
  rw [Nat.one_mul,Nat.mul_comm,←Nat.pow_succ]
  exact Nat.pow_lt_pow_right (by omega) (by omega)
 have g3:0<1*2^K:=by rw [Nat.one_mul];exact Nat.two_pow_pos K
 rw [hK] at g2 g3
 rw [←hP]
 refine ⟨hM0,s,by omega,?_⟩
 rw [←hQ]
 exact same_low s (M*2^Q) 1074 1 (2^P) (Nat.mul_pos hM0 hp) g1 g3 g2
theorem tkH_dpH (L:List UInt8):tkH L++dpH L=L:=List.takeWhile_append_dropWhile
theorem dpH_len (L:List UInt8):(dpH L).length+(tkH L).length=L.length:=by
 have:=congrArg List.length (tkH_dpH L);rw [List.length_append] at this;omega
theorem take_tkH (L:List UInt8):L.take (tkH L).length=tkH L:=by
 have h:=List.take_left (l₁:=tkH L) (l₂:=dpH L)
 rw [tkH_dpH] at h;exact h
end Go.Ulp
namespace Go.Proofs.YtfphmlmgjhebjaaGreatDoor
open Go.RowKit Go.Ulp
set_option maxHeartbeats 2000000
set_option maxRecDepth 100000
theorem trimHx_any (L:List UInt8) (w:World):
 Calls Tryz.prog 155 #[.string (bsOf L),.string ⟨#[48,49,50,51,52,53,54,55,56,57,97,98,99,100,101,102]⟩] w fun e w'=>e=.returned (.string (bsOf (dpH L)))∧Below w.heap.size w w':=by
 refine (Any.strings_TrimLeft_laid Tryz.lays161 (by kernel_rfl) (bsOf L) ⟨#[48,49,50,51,52,53,54,55,56,57,97,98,99,100,101,102]⟩ w (by decide) (ascii_of_all (by decide))).mono ?_
 rintro e w1 ⟨rfl,hb⟩
 refine ⟨?_,hb⟩
 rw [bs_list]
 have:Lib.trimLeftS L [48,49,50,51,52,53,54,55,56,57,97,98,99,100,101,102]=dpH L:=by
  unfold Lib.trimLeftS dpH
  congr 1
  funext b;exact hx_contains b
 exact ret_bs this
theorem takeHx_any (L:List UInt8) (w:World) (hl:L.length≤1000000):
 Calls Tryz.prog 169 #[.string (bsOf L),.string ⟨#[48,49,50,51,52,53,54,55,56,57,97,98,99,100,101,102]⟩] w fun e w'=>e=.returned (.tuple #[.string (bsOf (tkH L)),.string (bsOf (dpH L))])∧Below w.heap.size w w':=by
 have TD:=hid (fun w=>trimHx_any L w)
 have hd:=dpH_len L
 have hs1:(bsOf L).size=L.length:=bs_size L
 have hs2:(bsOf (dpH L)).size=(dpH L).length:=bs_size _
 have hw:IntKind.i64.wrap ((L.length:Int)-((dpH L).length:Int))=((tkH L).length:Int):=by rw [IntWalk.i64_in _ (by omega)];omega
 have s1:=slice_to (P:=Tryz.prog) Tryz.underlying9 L ((tkH L).length:Int) (by omega) (by omega)
 rw [Int.toNat_natCast,take_tkH] at s1
 generalize dpH L=R at *
 generalize hTK:tkH L=K at *
 generalize K.length=n at *
 clear hd hTK
 go_enter Tryz.func169,Tryz.ntmps169
 go_wp2_with (go_at_call 155;(with_reducible refine (TD.out _).mono ?_);rintro en w1 ⟨rfl,hb1⟩)
 go_ret2
 exact ⟨rfl,hb1⟩
theorem takeDg_any (L:List UInt8) (w:World) (hl:L.length≤1000000):
 Calls Tryz.prog 169 #[.string (bsOf L),.string ⟨#[48,49,50,51,52,53,54,55,56,57]⟩] w fun e w'=>e=.returned (.tuple #[.string (bsOf (tkD L)),.string (bsOf (dpD L))])∧Below w.heap.size w w':=by
 have TD:=hid (fun w=>trimDg_any L w)
 have hd:=dp_len L
 have hs1:(bsOf L).size=L.length:=bs_size L
 have hs2:(bsOf (dpD L)).size=(dpD L).length:=bs_size _
 have hw:IntKind.i64.wrap ((L.length:Int)-((dpD L).length:Int))=((tkD L).length:Int):=by rw [IntWalk.i64_in _ (by omega)];omega
 have s1:=slice_to (P:=Tryz.prog) Tryz.underlying9 L ((tkD L).length:Int) (by omega) (by omega)
 rw [Int.toNat_natCast,take_tk] at s1
 generalize dpD L=R at *
 generalize hTK:tkD L=K at *
 generalize K.length=n at *
 clear hd hTK
 go_enter Tryz.func169,Tryz.ntmps169
 go_wp2_with (go_at_call 155;(with_reducible refine (TD.out _).mono ?_);rintro en w1 ⟨rfl,hb1⟩)
 go_ret2
 exact ⟨rfl,hb1⟩
end Go.Proofs.YtfphmlmgjhebjaaGreatDoor
