/- TopSum: what the proof leans on, part 8 (Rn5 Rr5 Dn2). -/
import Derived.Deep.DeepCutAuto
import Derived.Deep.CutBlock
import Derived.Shelf.Spec.TrailingZeros
import Derived.Test.YtfphmlmgjhebjaaGreatDoorKTopSum1
import Derived.Test.YtfphmlmgjhebjaaGreatDoorKTopSum3
import Derived.Test.YtfphmlmgjhebjaaGreatDoorKTopSum4
import Derived.Test.YtfphmlmgjhebjaaGreatDoorKTopSum6
import Derived.Test.YtfphmlmgjhebjaaGreatDoorKTopSum7
set_option linter.unusedVariables false
set_option linter.unusedSimpArgs false
namespace Go.Ulp
open Go.RowKit
def RetX (w:World) (x:Int) (ch:Bool) (e:Ending) (w':World):Prop:=e=.returned (.tuple #[.int .u64 x,.bool ch])∧Below w.heap.size w w'
theorem ret2 {a b:Int} {c d:Bool} (h:a=b) (h':c=d):Ending.returned (.tuple #[.int .u64 a,.bool c])=.returned (.tuple #[.int .u64 b,.bool d]):=by rw [h,h']
theorem num_parts (neg:Bool) (m:Nat) (e mode:Int) (hz:m=0→e=0): ∃q:Nat,q=cutN neg m (numK m e-e) mode∧q≤9007199254740992∧ -1074≤numK m e∧(q<4503599627370496→numR neg m e mode=q∧numK m e≤971)∧(4503599627370496≤q→numR neg m e mode=(numK m e+1074)*4503599627370496+q):=by
 refine ⟨_,rfl,?_⟩
 by_cases hM:m=0
 ·have:=hz hM
  subst hM;subst this
  have e1:numR neg 0 0 mode=0:=by unfold numR;rw [if_pos rfl]
  have e2:numK 0 0= -53:=by unfold numK;rw [bl_zero];rfl
  have e3:cutN neg 0 (numK 0 0-0) mode=0:=by
   rw [e2];unfold cutN;rw [if_pos (by omega)];exact Nat.zero_mul _
  rw [e3,e1,e2]
  omega
 ·have hR:numR neg m e mode=(numK m e+1074)*4503599627370496+cutN neg m (numK m e-e) mode:=by unfold numR;rw [if_neg hM]
  obtain ⟨k,hk⟩: ∃k,k=numK m e:=⟨_,rfl⟩
  have hk2:=hk
  unfold numK at hk2
  have b1:=lt_bl m
  have b2:=pow_bl m (by omega)
  have b3:=(bl_pos m).2 (by omega)
  rw [hR,←hk]
  have key:cutN neg m (k-e) mode≤9007199254740992∧(k≠ -1074→4503599627370496≤cutN neg m (k-e) mode):=by
   by_cases hj:k-e≤0
   ·obtain ⟨d,hd⟩: ∃d:Nat,(d:Int)= -(k-e):=⟨(-(k-e)).toNat,by omega⟩
    have hd2:(-(k-e)).toNat=d:=by omega
    have hc:cutN neg m (k-e) mode=m*2^d:=by unfold cutN;rw [if_pos hj,hd2]
    rw [hc]
    refine ⟨?_,fun h=>?_⟩
    ·have:m*2^d≤2^bl m*2^d:=Nat.mul_le_mul_right _ (Nat.le_of_lt b1)
     rw [←Nat.pow_add] at this
     exact Nat.le_trans this (Nat.pow_le_pow_right (by omega) (show bl m+d≤53 by omega))
    ·have:2^(bl m-1)*2^d≤m*2^d:=Nat.mul_le_mul_right _ b2
     rw [←Nat.pow_add,show bl m-1+d=52 by omega] at this
     exact this
   ·obtain ⟨j,hj2⟩: ∃j:Nat,(j:Int)=k-e:=⟨(k-e).toNat,by omega⟩
    have hj3:(k-e).toNat=j:=by omega
    have h1:m/2^j<9007199254740992:=by
     rw [Nat.div_lt_iff_lt_mul (Nat.two_pow_pos j),show (9007199254740992:Nat)=2^53 by decide,←Nat.pow_add]
     exact Nat.lt_of_lt_of_le b1 (Nat.pow_le_pow_right (by omega) (by omega))
    have h2:k≠ -1074→4503599627370496≤m/2^j:=fun h=>by
     rw [Nat.le_div_iff_mul_le (Nat.two_pow_pos j),show (4503599627370496:Nat)=2^52 by decide,←Nat.pow_add,show 52+j=bl m-1 by omega]
     exact b2
    unfold cutN
    rw [if_neg hj,hj3]
    split<;>exact ⟨by omega,fun h=>by have:=h2 h;omega⟩
  omega
theorem bl_len (m n:Nat) (h:(limbs m).length≤n):bl m≤32*n:=by
 have h1:=(digs_len_le 4294967296 (by omega) m n).1 h
 rw [show (4294967296:Nat)=2^32 by decide,←Nat.pow_mul] at h1
 exact (bl_le m _).2 h1
theorem bits_or_zero (a:Int) (h0:0≤a) (h1:a<18446744073709551616):bits .or .u64 a 0=a:=by
 have:=or_join_u64 a 0 0 h0 h1 (by omega) (by omega) (by simp) (by simp)
 omega
theorem or_sgb (neg:Bool) (s a:Int) (hs:s=sgb neg) (h0:0≤a) (h1:a<9223372036854775808):bits .or .u64 a s=a+sgb neg:=by
 subst hs
 cases neg
 ·show bits .or .u64 a 0=a+0
  rw [bits_or_zero _ h0 (by omega)];omega
 ·exact or_sign a h0 h1
theorem fin_yes {neg:Bool} {mode R s:Int} (hs:s=sgb neg) (hR:9218868437227405312≤R) (ho:overA neg mode=true):bits .or .u64 9218868437227405312 s=capX neg mode R:=by
 rw [or_sgb neg s _ hs (by omega) (by omega)]
 unfold capX;rw [if_pos hR,if_pos ho]
theorem fin_no {neg:Bool} {mode R s:Int} (hs:s=sgb neg) (hR:9218868437227405312≤R) (ho:overA neg mode=false):bits .or .u64 9218868437227405311 s=capX neg mode R:=by
 rw [or_sgb neg s _ hs (by omega) (by omega)]
 unfold capX;rw [if_pos hR,ho];rfl
theorem fin_ch {R:Int} {ch:Bool} (hR:9218868437227405312≤R):true=capC R ch:=by unfold capC;rw [if_pos hR]
theorem fin_ch2 {R:Int} {ch:Bool} (hR:R<9218868437227405312):ch=capC R ch:=by unfold capC;rw [if_neg (by omega)]
theorem fin_small {neg:Bool} {mode R s n:Int} (hs:s=sgb neg) (h0:0≤n) (hR:R<9218868437227405312) (e:R=n):bits .or .u64 n s=capX neg mode R:=by
 rw [or_sgb neg s _ hs h0 (by omega)]
 unfold capX;rw [if_neg (by omega),e]
theorem fin_form {neg:Bool} {mode R s a n:Int} (hs:s=sgb neg) (a0:1≤a) (a1:a≤2046) (n0:4503599627370496≤n) (n1:n<9007199254740992) (e:R=(a-1)*4503599627370496+n):
 bits .or .u64 (bits .or .u64 (a*4503599627370496) (bits .and .u64 n 4503599627370495)) s=capX neg mode R:=by
 rw [and_frac n (by omega) (by omega),or_join52 (a*4503599627370496) (n%4503599627370496) (by omega) (by omega) (by omega) (by omega) (by omega) (by omega),or_sgb neg s _ hs (by omega) (by omega)]
 unfold capX;rw [if_neg (by omega)];omega
theorem val_or0 (x:Nat) (h:x<4294967296):Value.int .u64 (bits .or .u64 0 (x:Int))=Value.int .u64 ((0+4294967296^0*x:Nat):Int):=by
 rw [bits_comm_or 0 _ (by omega) (by omega) (by omega) (by omega),bits_or_zero _ (by omega) (by omega)]
 congr 1;omega
theorem val_or1 (V x:Nat) (hV:V<4294967296^1) (h:x<4294967296):Value.int .u64 (bits .or .u64 (V:Int) ((x:Int)*4294967296))=Value.int .u64 ((V+4294967296^1*x:Nat):Int):=by
 rw [or_join32' _ _ (by omega) (by omega) (by omega) (by omega)]
 congr 1;omega
end Go.Ulp
namespace Go.Proofs.YtfphmlmgjhebjaaGreatDoor
open Go.RowKit Go.Ulp
set_option maxHeartbeats 1000000
set_option maxRecDepth 100000
theorem number_any (neg:Bool) (a0:Option Addr) (c0 m:Nat) (e mode:Int) (w:World) (h0:Ns .u32 w a0 c0 (limbs m)) (hm:(limbs m).length≤10000) (he: -100000≤e∧e≤100000) (hz:m=0→e=0):
 Calls Tryz.prog 86 #[.agg #[.bool neg,.slice a0 (limbs m).length c0,.int .i64 e],.int .i64 mode] w (RetX w (numX neg m e mode) (numC neg m e mode)):=by
 obtain ⟨q,hq,hqm,hk0,hR1,hR2⟩:=num_parts neg m e mode hz
 have H:=hid h0
 have hbl:bl m≤320000:=by
  have:=bl_len m 10000 hm
  omega
 obtain ⟨k,hk⟩: ∃k,k=numK m e:=⟨_,rfl⟩
 have hkd:max ((bl m:Int)+e-53) (-1074)=k:=by rw [hk];rfl
 have hkb: -100000≤k∧k≤500000:=by omega
 obtain ⟨R,hR⟩: ∃R,R=numR neg m e mode:=⟨_,rfl⟩
 obtain ⟨ch,hch⟩: ∃ch,ch=cutC m (numK m e-e):=⟨_,rfl⟩
 have CU:=hid (show ∀a c w,Ns .u32 w a c (limbs m)→Calls Tryz.prog 152 #[.bool neg,.slice a (limbs m).length c,.int .i64 (k-e),.int .i64 mode] w fun e w'=>RetN2 w q (.bool ch) e w' from fun a c w h=>by
  have:=cut_any neg a c m (k-e) mode w h (by omega) (by omega)
  rw [hq,hch,←hk];exact this)
 have LE:=hid (fun w h=>natLen_any a0 c0 m w h (by omega))
 have hres:numX neg m e mode=capX neg mode R∧numC neg m e mode=capC R ch:=by unfold numX numC;rw [hR,hch];exact ⟨rfl,rfl⟩
 rw [hres.1,hres.2]
 rw [←hk,←hR] at hR1 hR2
 rw [←hk] at hk0
 obtain ⟨b,hb⟩: ∃b,b=bl m:=⟨_,rfl⟩
 rw [←hb] at hkd hbl LE
 have HKD:=hid hkd
 have zA:QL 67 (w.alloc (.cells #[.bool neg,.slice a0 (limbs m).length c0,.int .i64 e] 67)) w.heap.size neg (.slice a0 (limbs m).length c0) e:=QL.made rfl
 have yb0:=below_alloc w (.cells #[.bool neg,.slice a0 (limbs m).length c0,.int .i64 e] 67)
 have hw1:IntKind.i64.wrap ((b:Int)+e)=(b:Int)+e:=IntWalk.i64_in _ (by omega)
 have hw2:IntKind.i64.wrap ((b:Int)+e-53)=(b:Int)+e-53:=IntWalk.i64_in _ (by omega)
 clear h0 hq hk hR hch hres hb hkd hm
 go_enter Tryz.func86,Tryz.ntmps86
 go_upto_region 1 with fail
 refine wp_region_grow 9 [14,15,16,17,18,19,20,21,6] [Fact.is (.pointer (some ⟨w.heap.size,1,none⟩)),Fact.is (.slice a0 (limbs m).length c0),Fact.is (.int .i64 (b:Int)),Fact.is (.pointer (some ⟨w.heap.size,2,none⟩)),Fact.is (.int .i64 e),Fact.is (.int .i64 ((b:Int)+e)),Fact.is (.int .i64 ((b:Int)+e-53)),Fact.is (.int .i64 (max ((b:Int)+e-53) (-1074))),Fact.is (.int .i64 (max ((b:Int)+e-53) (-1074)))] (by kernel_rfl) (by kernel_rfl) ⟨?o0,?o1,?o2,?o3,?o4,?o5,?o6,?o7,?o8,trivial⟩ ?after
 case o0=>(refine oQ rfl ?_;intro ρ w1 R hcon hfn hρ hb hp hR;have e2:ρ (.tmp 2)=.pointer (some ⟨w.heap.size,0,none⟩):=hρ.tmp 2 rfl;clear hρ hp;unfold OpRun;go_simp;exact hR _ _ (Below.refl _ _) rfl)
 case o1=>(refine oQ rfl ?_;intro ρ w1 R hcon hfn hρ hb hp hR;have e14:ρ (.tmp 14)=_:=hp 0 14 rfl rfl;obtain ⟨⟨j0,j1,-,-,-⟩,j2,-⟩:=zA.below hb;clear hρ hp;unfold OpRun;go_simp;exact hR _ _ (Below.refl _ _) rfl)
 case o2=>(refine oQ rfl ?_;intro ρ w1 R hcon hfn hρ hb hp hR;have e15:ρ (.tmp 15)=_:=hp 1 15 rfl rfl;clear hρ hp;unfold OpRun;go_simp;(refine (LE.out _ (H.out.below (below_trans yb0 hb))).mono ?_;rintro e wn ⟨rfl,rfl⟩;exact ⟨_,rfl,hR _ _ (Below.refl _ _) rfl⟩))
 case o3=>(refine oQ rfl ?_;intro ρ w1 R hcon hfn hρ hb hp hR;have e2:ρ (.tmp 2)=.pointer (some ⟨w.heap.size,0,none⟩):=hρ.tmp 2 rfl;clear hρ hp;unfold OpRun;go_simp;exact hR _ _ (Below.refl _ _) rfl)
 case o4=>(refine oQ rfl ?_;intro ρ w1 R hcon hfn hρ hb hp hR;have e17:ρ (.tmp 17)=_:=hp 3 17 rfl rfl;obtain ⟨⟨j0,j1,-,-,-⟩,j2,-⟩:=zA.below hb;clear hρ hp;unfold OpRun;go_simp;exact hR _ _ (Below.refl _ _) rfl)
 case o5=>(refine oQ rfl ?_;intro ρ w1 R hcon hfn hρ hb hp hR;have e16:ρ (.tmp 16)=_:=hp 2 16 rfl rfl;have e18:ρ (.tmp 18)=_:=hp 4 18 rfl rfl;clear hρ hp;unfold OpRun;go_simp;exact hR _ _ (Below.refl _ _) rfl)
 case o6=>(refine oQ rfl ?_;intro ρ w1 R hcon hfn hρ hb hp hR;have e19:ρ (.tmp 19)=_:=hp 5 19 rfl rfl;clear hρ hp;unfold OpRun;go_simp;exact hR _ _ (Below.refl _ _) rfl)
 case o7=>(refine oQ rfl ?_;intro ρ w1 R hcon hfn hρ hb hp hR;have e20:ρ (.tmp 20)=_:=hp 6 20 rfl rfl;clear hρ hp;unfold OpRun;go_simp;exact hR _ _ (Below.refl _ _) rfl)
 case o8=>(refine oQ rfl ?_;intro ρ w1 R hcon hfn hρ hb hp hR;have e21:ρ (.tmp 21)=_:=hp 7 21 rfl rfl;clear hρ hp;unfold OpRun;go_simp;exact hR _ _ (Below.refl _ _) rfl)
 case after=>
  intro u wn hb hf
  have e6:u 6=_:=hf 8 6 (by omega) rfl
  clear hf
  simp only [putAll,Act.put,List.setIfInBounds_toArray,List.set_cons_zero,List.set_cons_succ,List.drop_succ_cons,List.drop_zero,List.drop_nil]
  rw [e6]
  rw [HKD.out]
  have zB:=zA.below hb
  have yb1:=below_trans yb0 hb
  clear hw1 hw2 LE HKD zA yb0 hb
  obtain ⟨⟨j0,j1,-,-,-⟩,j2,-⟩:=id zB
  have hw1:IntKind.i64.wrap (k-e)=k-e:=IntWalk.i64_in _ (by omega)
  go_upto_region 4 with (go_at_call 152;(with_reducible refine (CU.out _ _ _ (H.out.below yb1)).mono ?_);rintro e w1 ⟨a1,rfl,hN1,hb1⟩)
  have zC:=zB.below hb1
  have yb2:=below_trans yb1 hb1
  have hql:(limbs q).length≤2:=(digs_len_le 4294967296 (by omega) q 2).2 (by omega)
  have lQ:=hid (limbs_lim q)
  have lV:=hid (lval_limbs q)
  obtain ⟨-,-,hcells⟩:=hN1
  clear j0 j1 j2 zB yb1 hb1 hw1 CU H
  go_wp2_with fail
  go_loop [9,10,11,37] (fun n _ _ i=> ∃(k:Nat),k≤(limbs q).length∧i=.int .i64 k∧n=.int .u64 ((lval ((limbs q).take k):Nat):Int)) (fun _ _ _ i=>(limbs q).length-(intOf i).toNat)
  case atStart=>exact ⟨0,by omega,rfl,rfl⟩
  case round=>
   obtain ⟨kk,hkk,rfl,rfl⟩:=hrel
   by_cases hlt:kk<(limbs q).length
   ·obtain ⟨b1,o1,rfl,hc⟩:=hcells (by omega)
    have hc1:=hc kk hlt
    obtain ⟨x,hx⟩: ∃x,x=(limbs q).getD kk 0:=⟨_,rfl⟩
    have hx1:x<4294967296:=by rw [hx];exact lQ.out.getD (by omega) kk
    unfold lb at hc1
    rw [←hx] at hc1
    have hv:=lval_take_succ (limbs q) kk hlt
    rw [←hx] at hv
    have hvt:=lval_take_lt (limbs q) kk lQ.out (by omega)
    obtain ⟨V,hV⟩: ∃V,V=lval ((limbs q).take kk):=⟨_,rfl⟩
    rw [←hV] at hv hvt ⊢
    have HV:=hid hv
    have hk2:kk=0∨kk=1:=by omega
    clear hv hx hV hc hcells
    rcases hk2 with rfl|rfl
    ·have hV0:V=0:=by simpa using hvt
     subst hV0
     rw [Nat.add_zero] at hc1
     clear hvt
     go_wp2_with fail
     go_round
     case rel=>exact ⟨1,by omega,by go_num,by rw [HV.out];exact val_or0 x hx1⟩
     case measure=>simp [intOf];omega
    ·clear hkk
     go_wp2_with fail
     go_round
     case rel=>exact ⟨2,by omega,by go_num,by rw [HV.out];exact val_or1 V x hvt hx1⟩
     case measure=>simp [intOf];omega
   ·have hke:kk=(limbs q).length:=by omega
    have hfin:lval ((limbs q).take kk)=q:=by rw [hke,List.take_of_length_le (Nat.le_refl _),lV.out]
    rw [hfin]
    obtain ⟨⟨j0,j1,-,-,-⟩,j2,-⟩:=id zC
    have HR1:=hid hR1
    have HR2:=hid hR2
    have hq0:0≤(q:Int):=by omega
    have hq1:(q:Int)≤9007199254740992:=by omega
    have QI:=hid (show (q:Int)=((q:Nat):Int) from rfl)
    clear hfin hke hcells lQ lV hql hz hR1 hR2 e6 hqm
    cases neg
    ·by_cases hA:(q:Int)=9007199254740992
     ·have hA2:((q:Int)==9007199254740992)=true:=beq_iff_eq.2 hA
      have HA:=hid hA
      have hRv:=HR2.out (by omega)
      by_cases hO:971<k+1
      ·have HR:=hid (show 9218868437227405312≤R by omega)
       clear hA hRv
       by_cases hm0:mode=0
       ·subst hm0
        go_wp2_with fail
        go_ret2
        exact ⟨ret2 (fin_yes (neg:=false) rfl HR.out (by decide)) (fin_ch HR.out),yb2⟩
       have m0:(mode==0)=false:=beq_eq_false_iff_ne.2 hm0
       by_cases hm4:mode=4
       ·subst hm4
        go_wp2_with fail
        go_ret2
        exact ⟨ret2 (fin_yes (neg:=false) rfl HR.out (by decide)) (fin_ch HR.out),yb2⟩
       have m4:(mode==4)=false:=beq_eq_false_iff_ne.2 hm4
       by_cases hm1:mode=1
       ·subst hm1
        go_wp2_with fail
        go_ret2
        exact ⟨ret2 (by first|exact fin_yes (neg:=false) rfl HR.out (by decide)|exact fin_no (neg:=false) rfl HR.out (by decide)) (fin_ch HR.out),yb2⟩
       have m1:(mode==1)=false:=beq_eq_false_iff_ne.2 hm1
       by_cases hm2:mode=2
       ·subst hm2
        go_wp2_with fail
        go_ret2
        exact ⟨ret2 (by first|exact fin_yes (neg:=false) rfl HR.out (by decide)|exact fin_no (neg:=false) rfl HR.out (by decide)) (fin_ch HR.out),yb2⟩
       have m2:(mode==2)=false:=beq_eq_false_iff_ne.2 hm2
       have HO:=hid (show overA false mode=false by simp [overA,hm0,hm1,hm2,hm4])
       clear hm0 hm1 hm2 hm4
       go_wp2_with fail
       go_ret2
       exact ⟨ret2 (fin_no (neg:=false) rfl HR.out HO.out) (fin_ch HR.out),yb2⟩
      ·have HR:=hid (show R<9218868437227405312 by omega)
       have HV:=hid hRv
       clear hA hRv
       go_wp2_with fail
       go_ret2
       exact ⟨ret2 (fin_form (neg:=false) rfl (by omega) (by omega) (by omega) (by omega) (by have:=HV.out;have:=HA.out;omega)) (fin_ch2 HR.out),yb2⟩
     ·have hA2:((q:Int)==9007199254740992)=false:=beq_eq_false_iff_ne.2 hA
      by_cases hO:971<k
      ·have HR:=hid (show 9218868437227405312≤R by
        by_cases hs:q<4503599627370496
        ·have:=(HR1.out hs).2;omega
        ·have:=HR2.out (by omega);omega)
       by_cases hm0:mode=0
       ·subst hm0
        go_wp2_with fail
        go_ret2
        exact ⟨ret2 (fin_yes (neg:=false) rfl HR.out (by decide)) (fin_ch HR.out),yb2⟩
       have m0:(mode==0)=false:=beq_eq_false_iff_ne.2 hm0
       by_cases hm4:mode=4
       ·subst hm4
        go_wp2_with fail
        go_ret2
        exact ⟨ret2 (fin_yes (neg:=false) rfl HR.out (by decide)) (fin_ch HR.out),yb2⟩
       have m4:(mode==4)=false:=beq_eq_false_iff_ne.2 hm4
       by_cases hm1:mode=1
       ·subst hm1
        go_wp2_with fail
        go_ret2
        exact ⟨ret2 (by first|exact fin_yes (neg:=false) rfl HR.out (by decide)|exact fin_no (neg:=false) rfl HR.out (by decide)) (fin_ch HR.out),yb2⟩
       have m1:(mode==1)=false:=beq_eq_false_iff_ne.2 hm1
       by_cases hm2:mode=2
       ·subst hm2
        go_wp2_with fail
        go_ret2
        exact ⟨ret2 (by first|exact fin_yes (neg:=false) rfl HR.out (by decide)|exact fin_no (neg:=false) rfl HR.out (by decide)) (fin_ch HR.out),yb2⟩
       have m2:(mode==2)=false:=beq_eq_false_iff_ne.2 hm2
       have HO:=hid (show overA false mode=false by simp [overA,hm0,hm1,hm2,hm4])
       clear hm0 hm1 hm2 hm4
       go_wp2_with fail
       go_ret2
       exact ⟨ret2 (fin_no (neg:=false) rfl HR.out HO.out) (fin_ch HR.out),yb2⟩
      ·by_cases hs:(q:Int)<4503599627370496
       ·have HV:=hid (HR1.out (by omega)).1
        go_wp2_with fail
        go_ret2
        exact ⟨ret2 (fin_small (neg:=false) rfl (by omega) (by rw [HV.out];omega) HV.out) (fin_ch2 (by rw [HV.out];omega)),yb2⟩
       ·have HV:=hid (HR2.out (by omega))
        have HR:=hid (show R<9218868437227405312 by have:=HV.out;omega)
        go_wp2_with fail
        go_ret2
        exact ⟨ret2 (fin_form (neg:=false) rfl (by omega) (by omega) (by omega) (by omega) (by have:=HV.out;omega)) (fin_ch2 HR.out),yb2⟩
    ·by_cases hA:(q:Int)=9007199254740992
     ·have hA2:((q:Int)==9007199254740992)=true:=beq_iff_eq.2 hA
      have HA:=hid hA
      have hRv:=HR2.out (by omega)
      by_cases hO:971<k+1
      ·have HR:=hid (show 9218868437227405312≤R by omega)
       clear hA hRv
       by_cases hm0:mode=0
       ·subst hm0
        go_wp2_with fail
        go_ret2
        exact ⟨ret2 (fin_yes (neg:=true) rfl HR.out (by decide)) (fin_ch HR.out),yb2⟩
       have m0:(mode==0)=false:=beq_eq_false_iff_ne.2 hm0
       by_cases hm4:mode=4
       ·subst hm4
        go_wp2_with fail
        go_ret2
        exact ⟨ret2 (fin_yes (neg:=true) rfl HR.out (by decide)) (fin_ch HR.out),yb2⟩
       have m4:(mode==4)=false:=beq_eq_false_iff_ne.2 hm4
       by_cases hm1:mode=1
       ·subst hm1
        go_wp2_with fail
        go_ret2
        exact ⟨ret2 (by first|exact fin_yes (neg:=true) rfl HR.out (by decide)|exact fin_no (neg:=true) rfl HR.out (by decide)) (fin_ch HR.out),yb2⟩
       have m1:(mode==1)=false:=beq_eq_false_iff_ne.2 hm1
       by_cases hm2:mode=2
       ·subst hm2
        go_wp2_with fail
        go_ret2
        exact ⟨ret2 (by first|exact fin_yes (neg:=true) rfl HR.out (by decide)|exact fin_no (neg:=true) rfl HR.out (by decide)) (fin_ch HR.out),yb2⟩
       have m2:(mode==2)=false:=beq_eq_false_iff_ne.2 hm2
       have HO:=hid (show overA true mode=false by simp [overA,hm0,hm1,hm2,hm4])
       clear hm0 hm1 hm2 hm4
       go_wp2_with fail
       go_ret2
       exact ⟨ret2 (fin_no (neg:=true) rfl HR.out HO.out) (fin_ch HR.out),yb2⟩
      ·have HR:=hid (show R<9218868437227405312 by omega)
       have HV:=hid hRv
       clear hA hRv
       go_wp2_with fail
       go_ret2
       exact ⟨ret2 (fin_form (neg:=true) rfl (by omega) (by omega) (by omega) (by omega) (by have:=HV.out;have:=HA.out;omega)) (fin_ch2 HR.out),yb2⟩
     ·have hA2:((q:Int)==9007199254740992)=false:=beq_eq_false_iff_ne.2 hA
      by_cases hO:971<k
      ·have HR:=hid (show 9218868437227405312≤R by
        by_cases hs:q<4503599627370496
        ·have:=(HR1.out hs).2;omega
        ·have:=HR2.out (by omega);omega)
       by_cases hm0:mode=0
       ·subst hm0
        go_wp2_with fail
        go_ret2
        exact ⟨ret2 (fin_yes (neg:=true) rfl HR.out (by decide)) (fin_ch HR.out),yb2⟩
       have m0:(mode==0)=false:=beq_eq_false_iff_ne.2 hm0
       by_cases hm4:mode=4
       ·subst hm4
        go_wp2_with fail
        go_ret2
        exact ⟨ret2 (fin_yes (neg:=true) rfl HR.out (by decide)) (fin_ch HR.out),yb2⟩
       have m4:(mode==4)=false:=beq_eq_false_iff_ne.2 hm4
       by_cases hm1:mode=1
       ·subst hm1
        go_wp2_with fail
        go_ret2
        exact ⟨ret2 (by first|exact fin_yes (neg:=true) rfl HR.out (by decide)|exact fin_no (neg:=true) rfl HR.out (by decide)) (fin_ch HR.out),yb2⟩
       have m1:(mode==1)=false:=beq_eq_false_iff_ne.2 hm1
       by_cases hm2:mode=2
       ·subst hm2
        go_wp2_with fail
        go_ret2
        exact ⟨ret2 (by first|exact fin_yes (neg:=true) rfl HR.out (by decide)|exact fin_no (neg:=true) rfl HR.out (by decide)) (fin_ch HR.out),yb2⟩
       have m2:(mode==2)=false:=beq_eq_false_iff_ne.2 hm2
       have HO:=hid (show overA true mode=false by simp [overA,hm0,hm1,hm2,hm4])
       clear hm0 hm1 hm2 hm4
       go_wp2_with fail
       go_ret2
       exact ⟨ret2 (fin_no (neg:=true) rfl HR.out HO.out) (fin_ch HR.out),yb2⟩
      ·by_cases hs:(q:Int)<4503599627370496
       ·have HV:=hid (HR1.out (by omega)).1
        go_wp2_with fail
        go_ret2
        exact ⟨ret2 (fin_small (neg:=true) rfl (by omega) (by rw [HV.out];omega) HV.out) (fin_ch2 (by rw [HV.out];omega)),yb2⟩
       ·have HV:=hid (HR2.out (by omega))
        have HR:=hid (show R<9218868437227405312 by have:=HV.out;omega)
        go_wp2_with fail
        go_ret2
        exact ⟨ret2 (fin_form (neg:=true) rfl (by omega) (by omega) (by omega) (by omega) (by have:=HV.out;omega)) (fin_ch2 HR.out),yb2⟩
end Go.Proofs.YtfphmlmgjhebjaaGreatDoor
namespace Go.Ulp
open Go.RowKit
def knownB (mode:Int):Bool:=decide (0≤mode∧mode≤4)
def RetDy (w:World) (neg:Bool) (m:Nat) (x:Int) (e:Ending) (w':World):Prop:=
 ∃am cm,e=.returned (.agg #[.bool neg,.slice am (limbs m).length cm,.int .i64 x])∧Ns .u32 w' am cm (limbs m)∧Below w.heap.size w w'
end Go.Ulp
namespace Go.Proofs.YtfphmlmgjhebjaaGreatDoor
open Go.RowKit Go.Ulp
set_option maxHeartbeats 1000000
set_option maxRecDepth 100000
theorem known_any (mode:Int) (w:World):Calls Tryz.prog 78 #[.int .i64 mode] w fun e w'=>e=.returned (.bool (knownB mode))∧w=w':=by
 by_cases h:0≤mode
 ·have H:=hid (show decide (mode≤4)=knownB mode by unfold knownB;rw [decide_eq_decide];omega)
  go_enter Tryz.func78,Tryz.ntmps78
  go_wp2_with fail
  go_ret
  exact ⟨ret_bool H.out,rfl⟩
 ·have H:=hid (show false=knownB mode by unfold knownB;rw [eq_comm,decide_eq_false_iff_not];omega)
  go_enter Tryz.func78,Tryz.ntmps78
  go_wp2_with fail
  go_ret
  exact ⟨ret_bool H.out,rfl⟩
end Go.Proofs.YtfphmlmgjhebjaaGreatDoor
namespace Go.Ulp
open Go.RowKit
def RetX3 (w:World) (x:Int) (ch:Bool) (er:Int) (e:Ending) (w':World):Prop:=e=.returned (.tuple #[.int .u64 x,.bool ch,.int .i64 er])∧Below w.heap.size w w'
def toE (neg:Bool) (L:List Nat) (e mode:Int):Int:=if dyadE neg L e=0 then (if knownB mode=true then 0 else 1) else dyadE neg L e
def toX (neg:Bool) (L:List Nat) (e mode:Int):Int:=if toE neg L e mode=0 then numX neg (lval L) e mode else 0
def toC (neg:Bool) (L:List Nat) (e mode:Int):Bool:=if toE neg L e mode=0 then numC neg (lval L) e mode else false
def Fact.dy (neg:Bool) (m:Nat) (x:Int):Fact:=⟨fun v w=> ∃am cm,v=.agg #[.bool neg,.slice am (limbs m).length cm,.int .i64 x]∧Ns .u32 w am cm (limbs m),fun _ _ _ h hb=>by
 obtain ⟨am,cm,h1,h2⟩:=h
 exact ⟨am,cm,h1,h2.below hb⟩⟩
end Go.Ulp
namespace Go.Proofs.YtfphmlmgjhebjaaGreatDoor
open Go.RowKit Go.Ulp
set_option maxHeartbeats 1000000
set_option maxRecDepth 100000
theorem roundTo_any (neg:Bool) (ao:Option Addr) (cap:Nat) (L:List Nat) (e mode:Int) (w:World) (hN:Ns .u32 w ao cap L) (hl:Lim L):
 Calls Tryz.prog 31 #[.agg #[.bool neg,.slice ao L.length cap,.int .i64 e],.int .i64 mode] w (RetX3 w (toX neg L e mode) (toC neg L e mode) (toE neg L e mode)):=by
 have CK:=hid (fun w h=>dyadCheck_any neg ao cap L e w h hl)
 have zA0:QL 67 (w.alloc (.cells #[.bool neg,.slice ao L.length cap,.int .i64 e] 67)) w.heap.size neg (.slice ao L.length cap) e:=QL.made rfl
 have yb0:=below_alloc w (.cells #[.bool neg,.slice ao L.length cap,.int .i64 e] 67)
 have H:=hid hN
 have KN:=hid (fun w=>known_any mode w)
 obtain ⟨E,hE⟩: ∃E,E=dyadE neg L e:=⟨_,rfl⟩
 rw [←hE] at CK
 by_cases h0:E=0
 ·subst h0
  obtain ⟨b1,b2,b3,hL,hz,-⟩:=dyadE_zero hl hE.symm
  cases hk:knownB mode
  ·have te:toE neg L e mode=1:=by unfold toE;rw [if_pos hE.symm,hk];rfl
   have tx:toX neg L e mode=0:=by unfold toX;rw [te];rfl
   have tc:toC neg L e mode=false:=by unfold toC;rw [te];rfl
   rw [te,tx,tc]
   rw [hk] at KN
   clear hE hL hz te tx tc hk hN
   go_enter Tryz.func31,Tryz.ntmps31
   go_upto_region 2 with (go_at_call 85;(with_reducible refine (CK.out _ (H.out.below yb0)).mono ?_);rintro en w1 ⟨rfl,hb1⟩)
   go_wp2_with (go_at_call 78;(with_reducible refine (KN.out _).mono ?_);rintro en w2 ⟨rfl,rfl⟩)
   refine bodyPost_ret (by simp [results,Tryz.results31,go_sem];try rfl) rfl ?_
   exact ⟨rfl,below_trans yb0 hb1⟩
  ·have te:toE neg L e mode=0:=by unfold toE;rw [if_pos hE.symm,hk];rfl
   have tx:toX neg L e mode=numX neg (lval L) e mode:=by unfold toX;rw [if_pos te]
   have tc:toC neg L e mode=numC neg (lval L) e mode:=by unfold toC;rw [if_pos te]
   rw [te,tx,tc]
   rw [hk] at KN
   have hlen:L.length=(limbs (lval L)).length:=congrArg List.length hL
   have hH2:=H.out
   rw [hL] at hH2
   have NU:=hid (show ∀w,Ns .u32 w ao cap (limbs (lval L))→Calls Tryz.prog 86 #[.agg #[.bool neg,.slice ao L.length cap,.int .i64 e],.int .i64 mode] w (RetX w (numX neg (lval L) e mode) (numC neg (lval L) e mode)) from fun w h=>by
    rw [hlen];exact number_any neg ao cap (lval L) e mode w h (by omega) (by omega) (fun h=>(hz h).2))
   have H2:=hid hH2
   generalize numX neg (lval L) e mode=X at *
   generalize numC neg (lval L) e mode=C at *
   clear hE hL hz te tx tc hk hN hlen hH2
   go_enter Tryz.func31,Tryz.ntmps31
   go_upto_region 2 with (go_at_call 85;(with_reducible refine (CK.out _ (H.out.below yb0)).mono ?_);rintro en w1 ⟨rfl,hb1⟩)
   have zA:=zA0.below hb1
   have yb1:=below_trans yb0 hb1
   obtain ⟨⟨j0,j1,-,-,-⟩,j2,-⟩:=id zA
   go_wp2_with (first
    |(go_at_call 78;(with_reducible refine (KN.out _).mono ?_);rintro en w2 ⟨rfl,rfl⟩)
    |(go_at_call 86;(with_reducible refine (NU.out _ (H2.out.below yb1)).mono ?_);rintro en w3 ⟨rfl,hb3⟩))
   refine bodyPost_ret (by simp [results,Tryz.results31,go_sem];try rfl) rfl ?_
   exact ⟨rfl,below_trans yb1 hb3⟩
 ·have hb:(E==0)=false:=beq_eq_false_iff_ne.2 h0
  have te:toE neg L e mode=E:=by unfold toE;rw [if_neg (by rw [←hE];exact h0),hE]
  have tx:toX neg L e mode=0:=by unfold toX;rw [te,if_neg h0]
  have tc:toC neg L e mode=false:=by unfold toC;rw [te,if_neg h0]
  rw [te,tx,tc]
  clear hE te tx tc hN
  go_enter Tryz.func31,Tryz.ntmps31
  go_upto_region 2 with (go_at_call 85;(with_reducible refine (CK.out _ (H.out.below yb0)).mono ?_);rintro en w1 ⟨rfl,hb1⟩)
  go_wp2_with fail
  refine bodyPost_ret (by simp [results,Tryz.results31,go_sem];try rfl) rfl ?_
  exact ⟨rfl,below_trans yb0 hb1⟩
end Go.Proofs.YtfphmlmgjhebjaaGreatDoor
namespace Go.Ulp
open Go.RowKit
def rkD (n:Int):Dy:=nrm (rvs n) (-1074)
theorem rkD_fv (x:Int) (h0:0≤x) (h1:x<9223372036854775808):fv x=rkD x:=by
 rw [fv_rank x h0 (by omega)]
 unfold rkD rankOf
 rw [if_neg (by omega)];congr 2;omega
theorem rvi_parts2 (h q:Nat) (hq:q<9007199254740992) (hh:h=0∨4503599627370496≤q):rvi (h*4503599627370496+q)=q*2^h:=by
 unfold rvi
 by_cases h1:h*4503599627370496+q<4503599627370496
 ·rw [if_pos h1,show h=0 by omega];omega
 ·rw [if_neg h1]
  have:4503599627370496≤q:=by omega
  rw [show (h*4503599627370496+q)/4503599627370496-1=h by omega,show (h*4503599627370496+q)%4503599627370496+4503599627370496=q by omega]
theorem rvi_pow (h:Nat):rvi (h*4503599627370496+4503599627370496)=2^(52+h):=by
 rw [rvi_parts2 h 4503599627370496 (by omega) (.inr (by omega)),Nat.pow_add]
end Go.Ulp
namespace Go.Proofs.YtfphmlmgjhebjaaGreatDoor
open Go.RowKit Go.Ulp
set_option maxHeartbeats 1000000
set_option maxRecDepth 100000
end Go.Proofs.YtfphmlmgjhebjaaGreatDoor
namespace Go.Ulp
end Go.Ulp
namespace Go.Proofs.YtfphmlmgjhebjaaGreatDoor
open Go.RowKit Go.Ulp
set_option maxHeartbeats 1000000
set_option maxRecDepth 100000
end Go.Proofs.YtfphmlmgjhebjaaGreatDoor
namespace Go.Ulp
open Go.RowKit
end Go.Ulp
namespace Go.Proofs.YtfphmlmgjhebjaaGreatDoor
open Go.RowKit Go.Ulp
set_option maxHeartbeats 1000000
set_option maxRecDepth 100000
end Go.Proofs.YtfphmlmgjhebjaaGreatDoor
namespace Go.Ulp
open Go.RowKit
theorem QD.zero {t:TypeId} {w:World} {A T:Nat} (hA:0<A):QD t w (0,0) A T (.agg #[.bool false,.slice none 0 0,.int .i64 0]):=
 ⟨0,0,none,0,rfl,Nz.nil' _ _ (by unfold maxLen;omega),rfl,Nat.two_pow_pos A,Nat.zero_le _⟩
end Go.Ulp
namespace Go.Proofs.YtfphmlmgjhebjaaGreatDoor
open Go.RowKit Go.Ulp
set_option maxHeartbeats 1000000
set_option maxRecDepth 100000
end Go.Proofs.YtfphmlmgjhebjaaGreatDoor
namespace Go.Ulp
open Go.RowKit
end Go.Ulp
namespace Go.Proofs.YtfphmlmgjhebjaaGreatDoor
open Go.RowKit Go.Ulp
set_option maxHeartbeats 1000000
set_option maxRecDepth 100000
end Go.Proofs.YtfphmlmgjhebjaaGreatDoor
namespace Go.Ulp
open Go.RowKit
def VD (w:World) (D:Dy) (v:Value):Prop:= ∃am cm,v=.agg #[.bool (decide (D.1<0)),.slice am (limbs D.1.natAbs).length cm,.int .i64 D.2]∧Ns .u32 w am cm (limbs D.1.natAbs)
def RetVD (w:World) (D:Dy) (e:Ending) (w':World):Prop:= ∃v,e=.returned v∧VD w' D v∧Below w.heap.size w w'
theorem VD.below {w w':World} {D:Dy} {v:Value} (h:VD w D v) (hb:Below w.heap.size w w'):VD w' D v:=by
 obtain ⟨am,cm,h1,h2⟩:=h
 exact ⟨am,cm,h1,h2.below hb⟩
def Tab (g:Nat) (w:World):Prop:=Go.Proofs.TabAt g Go.Lib.deBruijn32tab w
theorem Tab.below {g:Nat} {w w':World} (h:Tab g w) (hb:Below w.heap.size w w'):Tab g w':=fun j hj=>
 (hb.cell (World.block_lt_of_cell? _ _ (h j hj))).trans (h j hj)
theorem ctz_tw (x:Nat) (h0:x≠0) (h1:x<2^32):Lib.ctz 32 x=tw x∧tw x<32:=by
 obtain ⟨m,hm,hk⟩:=Lib.ctzFrom_spec 32 x (by omega) h1
 have e:Lib.ctz 32 x=Lib.ctzFrom 32 x:=by simp [Lib.ctz,h0]
 have h2:=(tw_od_mul (2*m+1) (Lib.ctzFrom 32 x) (by omega)).1
 rw [Nat.mul_comm,←hm] at h2
 rw [e,h2]
 exact ⟨rfl,hk⟩
theorem tw_low (x r:Nat) (h0:x≠0) (h1:x<2^32):tw (x+2^32*r)=tw x:=by
 have hk:=(ctz_tw x h0 h1).2
 obtain ⟨e1,e2⟩:=od_tw x (by omega)
 obtain ⟨d,hd⟩: ∃d,32=tw x+(d+1):=⟨31-tw x,by omega⟩
 have e3:x+2^32*r=(od x+2*(2^d*r))*2^tw x:=by
  have h4:2^32*r=2*(2^d*r)*2^tw x:=by
   rw [hd,Nat.pow_add,Nat.pow_succ]
   simp only [Nat.mul_assoc,Nat.mul_comm,Nat.mul_left_comm]
  rw [Nat.add_mul,e1,h4]
 rw [e3]
 exact (tw_od_mul _ _ (by omega)).1
theorem val_zeros_take (B:Nat) (L:List Nat) (i:Nat) (h: ∀j,j<i→L.getD j 0=0):val B (L.take i)=0:=by
 refine val_zeros B _ (fun d hd=>?_)
 obtain ⟨j,hj,rfl⟩:=List.mem_iff_getElem.1 hd
 rw [List.length_take] at hj
 have h1:=h j (by omega)
 rw [getD_in _ _ (by omega)] at h1
 rw [List.getElem_take];exact h1
theorem tw_limbs (M i x:Nat) (hi:i<(limbs M).length) (hz: ∀j,j<i→(limbs M).getD j 0=0) (hx:(limbs M).getD i 0=x) (hx0:x≠0):tw M=32*i+tw x:=by
 have lL:=limbs_lim M
 have hx1:x<2^32:=by rw [←hx];exact lL.getD (by omega) i
 have h1:=val_take_drop 4294967296 (limbs M) i (by omega)
 have h2:=val_drop 4294967296 (limbs M) i hi
 have h3:=lval_limbs M
 unfold lval at h3
 rw [h3,val_zeros_take _ _ _ hz,h2,hx,Nat.zero_add] at h1
 have e:M=(x+2^32*val 4294967296 ((limbs M).drop (i+1)))*2^(32*i):=by
  conv=>lhs;rw [h1]
  rw [Nat.mul_comm,Nat.pow_mul]
 rw [e,(tw_mul _ _ (by omega)).1,tw_low x _ hx0 hx1];omega
theorem nrm_sg (neg:Bool) (M:Nat) (e:Int) (h:0<M):nrm (sg neg M) e=(sg neg (od M),e+tw M):=by
 have hx:sg neg (M:Int)≠0:=by unfold sg;cases neg<;>simp<;>omega
 have ha:(sg neg (M:Int)).natAbs=M:=by rw [sg_abs,Int.natAbs_natCast]
 have h1:=nrm_abs (sg neg (M:Int)) e hx
 rw [ha] at h1
 obtain ⟨k,h2,h3⟩:=nrm_rep (sg neg (M:Int)) e
 refine Prod.ext ?_ ?_
 ·have hp:=pw_pos k
  have key: ∀y:Int,y.natAbs=od M→sg neg (M:Int)=y*pw k→y=sg neg (od M:Int):=by
   intro y hy1 hy2
   have hod:=od_pos M h
   rcases Int.lt_trichotomy y 0 with hs|hs|hs
   ·have h5:y*pw k<0:=Int.mul_neg_of_neg_of_pos hs hp
    rw [←hy2] at h5
    cases neg
    ·exact absurd h5 (show ¬(M:Int)<0 by omega)
    ·show y= -(od M:Int);omega
   ·subst hs;simp at hy1;omega
   ·have h5:0<y*pw k:=Int.mul_pos hs hp
    rw [←hy2] at h5
    cases neg
    ·show y=(od M:Int);omega
    ·exact absurd h5 (show ¬0< -(M:Int) by omega)
  exact key _ h1 h2
 ·show (nrm (sg neg (M:Int)) e).2=_
  unfold nrm;rw [if_neg hx,ha]
theorem nrm_sg_zero (neg:Bool) (e:Int):nrm (sg neg ((0:Nat):Int)) e=(0,0):=by
 have:sg neg ((0:Nat):Int)=0:=by unfold sg;cases neg<;>rfl
 rw [this];rfl
theorem sg_od_lt (neg:Bool) (M:Nat) (h:0<M):decide (sg neg (od M:Int)<0)=neg∧(sg neg (od M:Int)).natAbs=od M:=by
 have:=od_pos M h
 refine ⟨?_,by rw [sg_abs,Int.natAbs_natCast]⟩
 cases neg
 ·exact decide_eq_false (by show ¬(od M:Int)<0;omega)
 ·exact decide_eq_true (by show -(od M:Int)<0;omega)
end Go.Ulp
namespace Go.Proofs.YtfphmlmgjhebjaaGreatDoor
open Go.RowKit Go.Ulp
set_option maxHeartbeats 1000000
set_option maxRecDepth 100000
theorem tz32_any (x:Nat) (hx:x<4294967296) (hx0:x≠0) (w:World) (hT:Tab 1 w):
 Calls Tryz.prog 219 #[.int .u32 (x:Int)] w fun e w'=>e=.returned (.int .i64 (tw x:Int))∧w=w':=by
 obtain ⟨hlow,hk⟩:=Lib.lowest_bit 32 x hx0 hx
 obtain ⟨hi,htab⟩:=Lib.deBruijn32_at _ hk
 have hcell:=hT _ hi
 rw [htab] at hcell
 have key:=tz32_key x _ hx hx0 hlow
 have hxb:((x:Int)==0)=false:=beq_eq_false_iff_ne.2 (by omega)
 have HE:=hid (ctz_tw x hx0 hx).1
 obtain ⟨c,hc⟩: ∃c,c=Lib.ctz 32 x:=⟨_,rfl⟩
 rw [←hc] at hcell key hi HE hk
 obtain ⟨idx,hidx⟩: ∃i,i=2^c*125613361%4294967296/134217728:=⟨_,rfl⟩
 rw [←hidx] at hi hcell key
 have HI:=hid hidx
 clear hlow htab hc hidx hT
 go_enter Tryz.func219,Tryz.ntmps219
 go_wp2_with (simp only [key])
 go_ret
 exact ⟨ret_int (by rw [HE.out]),rfl⟩
theorem norm_zero (neg:Bool) (a0:Option Addr) (c0:Nat) (e:Int) (w:World):
 Calls Tryz.prog 156 #[.bool neg,.slice a0 (limbs 0).length c0,.int .i64 e] w (RetVD w (nrm (sg neg ((0:Nat):Int)) e)):=by
 rw [nrm_sg_zero,limbs_zero]
 go_enter Tryz.func156,Tryz.ntmps156
 go_wp2_with fail
 refine bodyPost_ret (by simp [results,Tryz.results156,go_sem];try rfl) rfl ?_
 exact ⟨_,rfl,⟨none,0,rfl,Ns.nil⟩,below_alloc _ _⟩
theorem normD_any (neg:Bool) (a0:Option Addr) (c0 M:Nat) (e:Int) (w:World) (hN:Ns .u32 w a0 c0 (limbs M)) (hm:(limbs M).length≤1000000) (he: -1000000000≤e∧e≤1000000000) (hT:Tab 1 w):
 Calls Tryz.prog 156 #[.bool neg,.slice a0 (limbs M).length c0,.int .i64 e] w (RetVD w (nrm (sg neg (M:Int)) e)):=by
 by_cases h0:M=0
 ·subst h0;exact norm_zero neg a0 c0 e w
 have hpos:0<M:=by omega
 have hl0:0<(limbs M).length:=(digs_len_pos 4294967296 (by omega) M).2 hpos
 have hlb:(((limbs M).length:Int)==0)=false:=beq_eq_false_iff_ne.2 (by omega)
 have hlast:(limbs M).getD ((limbs M).length-1) 0≠0:=by
  rcases (trim_iff (limbs M)).1 (limbs_trim M) with h|h
  ·omega
  ·exact h
 have LL:=hid (limbs_lim M)
 have TW:=hid (tw_limbs M)
 obtain ⟨b0,o0,rfl,hc0⟩:=hN.2.2 hl0
 have HN:=hid hN
 have HT:=hid hT
 have yb0:=below_alloc w (.cells #[.bool false,.slice none 0 0,.int .i64 0] 67)
 have zR0:QL 67 (w.alloc (.cells #[.bool false,.slice none 0 0,.int .i64 0] 67)) w.heap.size false (.slice none 0 0) 0:=QL.made rfl
 have hcap:=hN.1
 have hcap2:=hN.2.1
 unfold maxLen at hcap2
 have RR:=hid (fun w h (hk:tw M≤4294967296000)=>right_any (some ⟨b0,o0,none⟩) c0 M (tw M) w h (by omega) hk)
 have TZ:=hid (fun x h1 h2 w h=>tz32_any x h1 h2 w h)
 have ND:=hid (nrm_sg neg M e hpos)
 have SG:=hid (sg_od_lt neg M hpos)
 obtain ⟨n,hn⟩: ∃n,n=(limbs M).length:=⟨_,rfl⟩
 have HNL:=hid hn
 have hc:=hid (fun i (h:i<n)=>((yb0.cell (p:=⟨b0,o0+i,none⟩) (World.block_lt_of_cell? _ _ (hc0 i (by omega)))).trans (hc0 i (by omega))))
 have HLA:=hid hlast
 rw [←hn] at hlb hcap hm hl0 RR ⊢
 clear hN hT hn h0 hpos hlast hc0
 go_enter Tryz.func156,Tryz.ntmps156
 go_upto_block 0 with fail
 go_cut [7] (fun s7 wx=> ∃i:Nat,s7=.int .i64 (32*(i:Int))∧i<n∧(limbs M).getD i 0≠0∧(∀j,j<i→(limbs M).getD j 0=0)∧wx=w.alloc (.cells #[.bool false,.slice none 0 0,.int .i64 0] 67))
 case first=>
  go_wp2_with fail
  go_loop [7] (fun s7=> ∃i:Nat,s7=.int .i64 (32*(i:Int))∧i<n∧(∀j,j<i→(limbs M).getD j 0=0)) (fun s7=>(32*n-(intOf s7).toNat))
  case atStart=>exact ⟨0,rfl,hl0,fun j hj=>by omega⟩
  case round=>
   obtain ⟨i,rfl,hi,hz⟩:=hrel
   have hcell:=hc.out i hi
   unfold lb at hcell
   obtain ⟨x,hx⟩: ∃x,x=(limbs M).getD i 0:=⟨_,rfl⟩
   rw [←hx] at hcell
   have e1:32*(i:Int)/32=(i:Int):=by omega
   have HX:=hid hx
   have HZ:=hid hz
   clear hx hz
   by_cases hx0:x=0
   ·subst hx0
    have hin:i+1<n:=by
     rcases Nat.lt_or_ge (i+1) n with h|h
     ·exact h
     ·have:i=n-1:=by omega
      have h9:=HX.out
      rw [this,HNL.out] at h9
      exact absurd h9.symm HLA.out
    go_wp2_with fail
    go_round
    case rel=>exact ⟨i+1,by rw [show 32*(i:Int)+32=32*((i+1:Nat):Int) by omega],hin,fun j hj=>by
     by_cases hji:j=i
     ·rw [hji,←HX.out]
     ·exact HZ.out j (by omega)⟩
    case measure=>simp [intOf];omega
   ·have hxb:((x:Int)==0)=false:=beq_eq_false_iff_ne.2 (by omega)
    have HX0:=hid hx0
    clear hx0
    go_wp2_with fail
    go_meet
    exact ⟨i,rfl,hi,by rw [←HX.out];exact HX0.out,HZ.out,rfl⟩
 case rest=>
  obtain ⟨i,rfl,hi,hx0,hz,rfl⟩:=hcut
  have hcell:=hc.out i hi
  unfold lb at hcell
  obtain ⟨x,hx⟩: ∃x,x=(limbs M).getD i 0:=⟨_,rfl⟩
  rw [←hx] at hcell hx0
  have hx1:x<4294967296:=by rw [hx];exact LL.out.getD (by omega) i
  have e1:32*(i:Int)/32=(i:Int):=by omega
  have htw:tw M=32*i+tw x:=TW.out i x (by rw [←HNL.out];exact hi) hz hx.symm hx0
  have ht32:=(ctz_tw x hx0 hx1).2
  have TZx:=hid (fun w h=>TZ.out x hx1 hx0 w h)
  obtain ⟨tM,htM⟩: ∃t,t=tw M:=⟨_,rfl⟩
  obtain ⟨tx,htx⟩: ∃t,t=tw x:=⟨_,rfl⟩
  rw [←htM] at RR ND htw
  rw [←htx] at TZx htw ht32
  have e2:32*(i:Int)+(tx:Int)=(tM:Int):=by omega
  have hMo:M/2^tM=od M:=by rw [htM];rfl
  have RRM:=hid (fun w h=>RR.out w h (by omega))
  rw [hMo] at RRM
  have hcapM:=hid hcap
  clear hx0 hz hx TW htM htx hMo RR TZ htw
  go_upto_region 8 with (first
   |(go_at_call 219;(with_reducible refine (TZx.out _ (HT.out.below yb0)).mono ?_);rintro en w1 ⟨rfl,rfl⟩)
   |(go_at_call 213;(with_reducible refine (RRM.out _ (HN.out.below yb0)).mono ?_);rintro en w2 ⟨a2,rfl,hN2,hb2⟩))
  have zR:=zR0.below hb2
  have yb2:=below_trans yb0 hb2
  obtain ⟨⟨k0,k1,f0,f1,hs2⟩,k2,f2⟩:=id zR
  go_wp2_with fail
  refine bodyPost_ret (by simp [results,Tryz.results156,go_sem,k0,k1,k2];try rfl) rfl ?_
  rw [ND.out]
  refine ⟨_,rfl,⟨a2,(limbs (od M)).length,?_,?_⟩,((yb2.setCell (by first|omega|(simp;done)|(simp;omega)) _).setCell (by first|omega|(simp;done)|(simp;omega)) _).setCell (by first|omega|(simp;done)|(simp;omega)) _⟩
  ·simp only [SG.out.1,SG.out.2]
  ·simp only [SG.out.2]
   exact hN2.set3 zR (by intro x h;cases h) _ _ _
end Go.Proofs.YtfphmlmgjhebjaaGreatDoor
namespace Go.Ulp
open Go.RowKit
theorem or_hidden (f:Int) (h0:0≤f) (h1:f<4503599627370496):bits .or .u64 f 4503599627370496=f+4503599627370496:=by
 rw [bits_comm_or f _ h0 (by omega) (by omega) (by omega),or_join52 4503599627370496 f (by omega) (by omega) h0 (by omega) (by omega) h1];omega
end Go.Ulp
namespace Go.Proofs.YtfphmlmgjhebjaaGreatDoor
open Go.RowKit Go.Ulp
set_option maxHeartbeats 1000000
set_option maxRecDepth 100000
theorem value_any (x:Int) (h0:0≤x) (h1:x<18446744073709551616) (w:World) (hT:Tab 1 w):
 Calls Tryz.prog 96 #[.int .u64 x] w (RetVD w (fv x)):=by
 have PA:=hid (fun w=>parts_any x h0 h1 w)
 have hfb:=fracOf_bd x
 have heb:=expOf_bd x
 have hmb:=mantOf_bd x
 obtain ⟨m,hm⟩:=Int.eq_ofNat_of_zero_le hmb.1
 have OF:=hid (fun w=>natOf_any m (by omega) w)
 have hml:(limbs m).length≤1000000:=by
  have:(limbs m).length≤2:=(digs_len_le 4294967296 (by omega) m 2).2 (by omega)
  omega
 have hdb:=dexp_bd x
 have NO:=hid (show ∀a c w,Ns .u32 w a c (limbs m)→Tab 1 w→Calls Tryz.prog 156 #[.bool (negB x),.slice a (limbs m).length c,.int .i64 (max (expOf x) 1-1075)] w (RetVD w (fv x)) from fun a c w k t=>by
  have:=normD_any (negB x) a c m (dexp x) w k hml (by omega) t
  unfold fv;rw [hm];exact this)
 have yb0:=below_alloc w (.cells #[.bool false,.slice none 0 0,.int .i64 0] 67)
 have zR0:QL 67 (w.alloc (.cells #[.bool false,.slice none 0 0,.int .i64 0] 67)) w.heap.size false (.slice none 0 0) 0:=QL.made rfl
 have HT:=hid hT
 by_cases hp:0<expOf x
 ·have hor:=or_hidden (fracOf x) hfb.1 hfb.2
  have hmv:fracOf x+4503599627370496=(m:Int):=by
   have:=hm;unfold mantOf at this;rw [if_pos hp] at this;exact this
  generalize fracOf x=fr at *
  generalize negB x=ng at *
  generalize expOf x=ex at *
  generalize fv x=D at *
  clear hT hm hmb hml hdb
  go_enter Tryz.func96,Tryz.ntmps96
  go_wp2_with (first
   |(go_at_call 87;(with_reducible refine (PA.out _).mono ?_);rintro en w1 ⟨rfl,rfl⟩)
   |(go_at_call 95;(with_reducible refine (OF.out _).mono ?_);rintro en w2 ⟨a2,rfl,hN2,hb2⟩;have yb2:=below_trans yb0 hb2;have zR2:=zR0.below hb2)
   |(go_at_call 156;(with_reducible refine (NO.out _ _ _ hN2 (HT.out.below yb2)).mono ?_);rintro en w3 ⟨v3,rfl,⟨a3,c3,rfl,hN3⟩,hb3⟩;have yb3:=below_trans yb2 hb3;have zR3:=zR2.below hb3;obtain ⟨⟨k0,k1,f0,f1,hs2⟩,k2,f2⟩:=id zR3))
  refine bodyPost_ret (by simp [results,Tryz.results96,go_sem,k0,k1,k2];try rfl) rfl ?_
  exact ⟨_,rfl,⟨a3,c3,rfl,hN3.set3 zR3 (by intro x h;cases h) _ _ _⟩,((yb3.setCell (by first|omega|(simp;done)|(simp;omega)) _).setCell (by first|omega|(simp;done)|(simp;omega)) _).setCell (by first|omega|(simp;done)|(simp;omega)) _⟩
 ·have hmv:fracOf x=(m:Int):=by
   have:=hm;unfold mantOf at this;rw [if_neg hp] at this;exact this
  generalize fracOf x=fr at *
  generalize negB x=ng at *
  generalize expOf x=ex at *
  generalize fv x=D at *
  clear hT hm hmb hml hdb
  subst hmv
  go_enter Tryz.func96,Tryz.ntmps96
  go_wp2_with (first
   |(go_at_call 87;(with_reducible refine (PA.out _).mono ?_);rintro en w1 ⟨rfl,rfl⟩)
   |(go_at_call 95;(with_reducible refine (OF.out _).mono ?_);rintro en w2 ⟨a2,rfl,hN2,hb2⟩;have yb2:=below_trans yb0 hb2;have zR2:=zR0.below hb2)
   |(go_at_call 156;(with_reducible refine (NO.out _ _ _ hN2 (HT.out.below yb2)).mono ?_);rintro en w3 ⟨v3,rfl,⟨a3,c3,rfl,hN3⟩,hb3⟩;have yb3:=below_trans yb2 hb3;have zR3:=zR2.below hb3;obtain ⟨⟨k0,k1,f0,f1,hs2⟩,k2,f2⟩:=id zR3))
  refine bodyPost_ret (by simp [results,Tryz.results96,go_sem,k0,k1,k2];try rfl) rfl ?_
  exact ⟨_,rfl,⟨a3,c3,rfl,hN3.set3 zR3 (by intro x h;cases h) _ _ _⟩,((yb3.setCell (by first|omega|(simp;done)|(simp;omega)) _).setCell (by first|omega|(simp;done)|(simp;omega)) _).setCell (by first|omega|(simp;done)|(simp;omega)) _⟩
end Go.Proofs.YtfphmlmgjhebjaaGreatDoor
