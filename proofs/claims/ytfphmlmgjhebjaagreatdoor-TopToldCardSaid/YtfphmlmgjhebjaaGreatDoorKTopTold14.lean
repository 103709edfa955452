/- TopTold: what the proof leans on, part 14 (Rn5 Rr5 Su0 Qs2). -/
import Derived.Deep.DeepCutAuto
import Derived.Deep.CutBlock
import Derived.Test.YtfphmlmgjhebjaaGreatDoorKTopTold6
import Derived.Test.YtfphmlmgjhebjaaGreatDoorKTopTold7
import Derived.Test.YtfphmlmgjhebjaaGreatDoorKTopTold8
import Derived.Test.YtfphmlmgjhebjaaGreatDoorKTopTold9
import Derived.Test.YtfphmlmgjhebjaaGreatDoorKTopTold10
set_option linter.unusedVariables false
set_option linter.unusedSimpArgs false
namespace Go.Ulp
open Go.RowKit
def RetX (w:World) (x:Int) (ch:Bool) (e:Ending) (w':World):Prop:=e=.returned (.tuple #[.int .u64 x,.bool ch])∧Below w.heap.size w w'
theorem ret2 {a b:Int} {c d:Bool} (h:a=b) (h':c=d):Ending.returned (.tuple #[.int .u64 a,.bool c])=.returned (.tuple #[.int .u64 b,.bool d]):=by rw [h,h']
theorem num_parts (neg:Bool) (m:Nat) (e mode:Int) (hz:m=0→e=0): ∃q:Nat,q=cutN neg m (numK m e-e) mode∧q≤9007199254740992∧ -1074≤numK m e∧(q<4503599627370496→numR neg m e mode=q∧numK m e≤971)∧(4503599627370496≤q→numR neg m e mode=(numK m e+1074)*4503599627370496+q):=by
 refine ⟨_,rfl,?_⟩
 by_cases hM:m=0
 ·have:=hz hM
  subst hM;subst this
  have e1:numR neg 0 0 mode=0:=by unfold numR;rw [if_pos rfl]
  have e2:numK 0 0= -53:=by unfold numK;rw [bl_zero];rfl
  have e3:cutN neg 0 (numK 0 0-0) mode=0:=by
   rw [e2];unfold cutN;rw [if_pos (by omega)];exact Nat.zero_mul _
  rw [e3,e1,e2]
  omega
 ·have hR:numR neg m e mode=(numK m e+1074)*4503599627370496+cutN neg m (numK m e-e) mode:=by unfold numR;rw [if_neg hM]
  obtain ⟨k,hk⟩: ∃k,k=numK m e:=⟨_,rfl⟩
  have hk2:=hk
  unfold numK at hk2
  have b1:=lt_bl m
  have b2:=pow_bl m (by omega)
  have b3:=(bl_pos m).2 (by omega)
  rw [hR,←hk]
  have key:cutN neg m (k-e) mode≤9007199254740992∧(k≠ -1074→4503599627370496≤cutN neg m (k-e) mode):=by
   by_cases hj:k-e≤0
   ·obtain ⟨d,hd⟩: ∃d:Nat,(d:Int)= -(k-e):=⟨(-(k-e)).toNat,by omega⟩
    have hd2:(-(k-e)).toNat=d:=by omega
    have hc:cutN neg m (k-e) mode=m*2^d:=by unfold cutN;rw [if_pos hj,hd2]
    rw [hc]
    refine ⟨?_,fun h=>?_⟩
    ·have:m*2^d≤2^bl m*2^d:=Nat.mul_le_mul_right _ (Nat.le_of_lt b1)
     rw [←Nat.pow_add] at this
     exact Nat.le_trans this (Nat.pow_le_pow_right (by omega) (show bl m+d≤53 by omega))
    ·have:2^(bl m-1)*2^d≤m*2^d:=Nat.mul_le_mul_right _ b2
     rw [←Nat.pow_add,show bl m-1+d=52 by omega] at this
     exact this
   ·obtain ⟨j,hj2⟩: ∃j:Nat,(j:Int)=k-e:=⟨(k-e).toNat,by omega⟩
    have hj3:(k-e).toNat=j:=by omega
    have h1:m/2^j<9007199254740992:=by
     rw [Nat.div_lt_iff_lt_mul (Nat.two_pow_pos j),show (9007199254740992:Nat)=2^53 by decide,←Nat.pow_add]
     exact Nat.lt_of_lt_of_le b1 (Nat.pow_le_pow_right (by omega) (by omega))
    have h2:k≠ -1074→4503599627370496≤m/2^j:=fun h=>by
     rw [Nat.le_div_iff_mul_le (Nat.two_pow_pos j),show (4503599627370496:Nat)=2^52 by decide,←Nat.pow_add,show 52+j=bl m-1 by omega]
     exact b2
    unfold cutN
    rw [if_neg hj,hj3]
    split<;>exact ⟨by omega,fun h=>by have:=h2 h;omega⟩
  omega
theorem bl_len (m n:Nat) (h:(limbs m).length≤n):bl m≤32*n:=by
 have h1:=(digs_len_le 4294967296 (by omega) m n).1 h
 rw [show (4294967296:Nat)=2^32 by decide,←Nat.pow_mul] at h1
 exact (bl_le m _).2 h1
theorem bits_or_zero (a:Int) (h0:0≤a) (h1:a<18446744073709551616):bits .or .u64 a 0=a:=by
 have:=or_join_u64 a 0 0 h0 h1 (by omega) (by omega) (by simp) (by simp)
 omega
theorem or_sgb (neg:Bool) (s a:Int) (hs:s=sgb neg) (h0:0≤a) (h1:a<9223372036854775808):bits .or .u64 a s=a+sgb neg:=by
 subst hs
 cases neg
 ·show bits .or .u64 a 0=a+0
  rw [bits_or_zero _ h0 (by omega)];omega
 ·exact or_sign a h0 h1
theorem fin_yes {neg:Bool} {mode R s:Int} (hs:s=sgb neg) (hR:9218868437227405312≤R) (ho:overA neg mode=true):bits .or .u64 9218868437227405312 s=capX neg mode R:=by
 rw [or_sgb neg s _ hs (by omega) (by omega)]
 unfold capX;rw [if_pos hR,if_pos ho]
theorem fin_no {neg:Bool} {mode R s:Int} (hs:s=sgb neg) (hR:9218868437227405312≤R) (ho:overA neg mode=false):bits .or .u64 9218868437227405311 s=capX neg mode R:=by
 rw [or_sgb neg s _ hs (by omega) (by omega)]
 unfold capX;rw [if_pos hR,ho];rfl
theorem fin_ch {R:Int} {ch:Bool} (hR:9218868437227405312≤R):true=capC R ch:=by unfold capC;rw [if_pos hR]
theorem fin_ch2 {R:Int} {ch:Bool} (hR:R<9218868437227405312):ch=capC R ch:=by unfold capC;rw [if_neg (by omega)]
theorem fin_small {neg:Bool} {mode R s n:Int} (hs:s=sgb neg) (h0:0≤n) (hR:R<9218868437227405312) (e:R=n):bits .or .u64 n s=capX neg mode R:=by
 rw [or_sgb neg s _ hs h0 (by omega)]
 unfold capX;rw [if_neg (by omega),e]
theorem fin_form {neg:Bool} {mode R s a n:Int} (hs:s=sgb neg) (a0:1≤a) (a1:a≤2046) (n0:4503599627370496≤n) (n1:n<9007199254740992) (e:R=(a-1)*4503599627370496+n):
 bits .or .u64 (bits .or .u64 (a*4503599627370496) (bits .and .u64 n 4503599627370495)) s=capX neg mode R:=by
 rw [and_frac n (by omega) (by omega),or_join52 (a*4503599627370496) (n%4503599627370496) (by omega) (by omega) (by omega) (by omega) (by omega) (by omega),or_sgb neg s _ hs (by omega) (by omega)]
 unfold capX;rw [if_neg (by omega)];omega
theorem val_or0 (x:Nat) (h:x<4294967296):Value.int .u64 (bits .or .u64 0 (x:Int))=Value.int .u64 ((0+4294967296^0*x:Nat):Int):=by
 rw [bits_comm_or 0 _ (by omega) (by omega) (by omega) (by omega),bits_or_zero _ (by omega) (by omega)]
 congr 1;omega
theorem val_or1 (V x:Nat) (hV:V<4294967296^1) (h:x<4294967296):Value.int .u64 (bits .or .u64 (V:Int) ((x:Int)*4294967296))=Value.int .u64 ((V+4294967296^1*x:Nat):Int):=by
 rw [or_join32' _ _ (by omega) (by omega) (by omega) (by omega)]
 congr 1;omega
end Go.Ulp
namespace Go.Proofs.YtfphmlmgjhebjaaGreatDoor
open Go.RowKit Go.Ulp
set_option maxHeartbeats 1000000
set_option maxRecDepth 100000
theorem number_any (neg:Bool) (a0:Option Addr) (c0 m:Nat) (e mode:Int) (w:World) (h0:Ns .u32 w a0 c0 (limbs m)) (hm:(limbs m).length≤10000) (he: -100000≤e∧e≤100000) (hz:m=0→e=0):
 Calls Tryz.prog 86 #[.agg #[.bool neg,.slice a0 (limbs m).length c0,.int .i64 e],.int .i64 mode] w (RetX w (numX neg m e mode) (numC neg m e mode)):=by
 obtain ⟨q,hq,hqm,hk0,hR1,hR2⟩:=num_parts neg m e mode hz
 have H:=hid h0
 have hbl:bl m≤320000:=by
  have:=bl_len m 10000 hm
  omega
 obtain ⟨k,hk⟩: ∃k,k=numK m e:=⟨_,rfl⟩
 have hkd:max ((bl m:Int)+e-53) (-1074)=k:=by rw [hk];rfl
 have hkb: -100000≤k∧k≤500000:=by omega
 obtain ⟨R,hR⟩: ∃R,R=numR neg m e mode:=⟨_,rfl⟩
 obtain ⟨ch,hch⟩: ∃ch,ch=cutC m (numK m e-e):=⟨_,rfl⟩
 have CU:=hid (show ∀a c w,Ns .u32 w a c (limbs m)→Calls Tryz.prog 152 #[.bool neg,.slice a (limbs m).length c,.int .i64 (k-e),.int .i64 mode] w fun e w'=>RetN2 w q (.bool ch) e w' from fun a c w h=>by
  have:=cut_any neg a c m (k-e) mode w h (by omega) (by omega)
  rw [hq,hch,←hk];exact this)
 have LE:=hid (fun w h=>natLen_any a0 c0 m w h (by omega))
 have hres:numX neg m e mode=capX neg mode R∧numC neg m e mode=capC R ch:=by unfold numX numC;rw [hR,hch];exact ⟨rfl,rfl⟩
 rw [hres.1,hres.2]
 rw [←hk,←hR] at hR1 hR2
 rw [←hk] at hk0
 obtain ⟨b,hb⟩: ∃b,b=bl m:=⟨_,rfl⟩
 rw [←hb] at hkd hbl LE
 have HKD:=hid hkd
 have zA:QL 67 (w.alloc (.cells #[.bool neg,.slice a0 (limbs m).length c0,.int .i64 e] 67)) w.heap.size neg (.slice a0 (limbs m).length c0) e:=QL.made rfl
 have yb0:=below_alloc w (.cells #[.bool neg,.slice a0 (limbs m).length c0,.int .i64 e] 67)
 have hw1:IntKind.i64.wrap ((b:Int)+e)=(b:Int)+e:=IntWalk.i64_in _ (by omega)
 have hw2:IntKind.i64.wrap ((b:Int)+e-53)=(b:Int)+e-53:=IntWalk.i64_in _ (by omega)
 clear h0 hq hk hR hch hres hb hkd hm
 go_enter Tryz.func86,Tryz.ntmps86
 go_upto_region 1 with fail
 refine wp_region_grow 9 [14,15,16,17,18,19,20,21,6] [Fact.is (.pointer (some ⟨w.heap.size,1,none⟩)),Fact.is (.slice a0 (limbs m).length c0),Fact.is (.int .i64 (b:Int)),Fact.is (.pointer (some ⟨w.heap.size,2,none⟩)),Fact.is (.int .i64 e),Fact.is (.int .i64 ((b:Int)+e)),Fact.is (.int .i64 ((b:Int)+e-53)),Fact.is (.int .i64 (max ((b:Int)+e-53) (-1074))),Fact.is (.int .i64 (max ((b:Int)+e-53) (-1074)))] (by kernel_rfl) (by kernel_rfl) ⟨?o0,?o1,?o2,?o3,?o4,?o5,?o6,?o7,?o8,trivial⟩ ?after
 case o0=>(refine oQ rfl ?_;intro ρ w1 R hcon hfn hρ hb hp hR;have e2:ρ (.tmp 2)=.pointer (some ⟨w.heap.size,0,none⟩):=hρ.tmp 2 rfl;clear hρ hp;unfold OpRun;go_simp;exact hR _ _ (Below.refl _ _) rfl)
 case o1=>(refine oQ rfl ?_;intro ρ w1 R hcon hfn hρ hb hp hR;have e14:ρ (.tmp 14)=_:=hp 0 14 rfl rfl;obtain ⟨⟨j0,j1,-,-,-⟩,j2,-⟩:=zA.below hb;clear hρ hp;unfold OpRun;go_simp;exact hR _ _ (Below.refl _ _) rfl)
 case o2=>(refine oQ rfl ?_;intro ρ w1 R hcon hfn hρ hb hp hR;have e15:ρ (.tmp 15)=_:=hp 1 15 rfl rfl;clear hρ hp;unfold OpRun;go_simp;(refine (LE.out _ (H.out.below (below_trans yb0 hb))).mono ?_;rintro e wn ⟨rfl,rfl⟩;exact ⟨_,rfl,hR _ _ (Below.refl _ _) rfl⟩))
 case o3=>(refine oQ rfl ?_;intro ρ w1 R hcon hfn hρ hb hp hR;have e2:ρ (.tmp 2)=.pointer (some ⟨w.heap.size,0,none⟩):=hρ.tmp 2 rfl;clear hρ hp;unfold OpRun;go_simp;exact hR _ _ (Below.refl _ _) rfl)
 case o4=>(refine oQ rfl ?_;intro ρ w1 R hcon hfn hρ hb hp hR;have e17:ρ (.tmp 17)=_:=hp 3 17 rfl rfl;obtain ⟨⟨j0,j1,-,-,-⟩,j2,-⟩:=zA.below hb;clear hρ hp;unfold OpRun;go_simp;exact hR _ _ (Below.refl _ _) rfl)
 case o5=>(refine oQ rfl ?_;intro ρ w1 R hcon hfn hρ hb hp hR;have e16:ρ (.tmp 16)=_:=hp 2 16 rfl rfl;have e18:ρ (.tmp 18)=_:=hp 4 18 rfl rfl;clear hρ hp;unfold OpRun;go_simp;exact hR _ _ (Below.refl _ _) rfl)
 case o6=>(refine oQ rfl ?_;intro ρ w1 R hcon hfn hρ hb hp hR;have e19:ρ (.tmp 19)=_:=hp 5 19 rfl rfl;clear hρ hp;unfold OpRun;go_simp;exact hR _ _ (Below.refl _ _) rfl)
 case o7=>(refine oQ rfl ?_;intro ρ w1 R hcon hfn hρ hb hp hR;have e20:ρ (.tmp 20)=_:=hp 6 20 rfl rfl;clear hρ hp;unfold OpRun;go_simp;exact hR _ _ (Below.refl _ _) rfl)
 case o8=>(refine oQ rfl ?_;intro ρ w1 R hcon hfn hρ hb hp hR;have e21:ρ (.tmp 21)=_:=hp 7 21 rfl rfl;clear hρ hp;unfold OpRun;go_simp;exact hR _ _ (Below.refl _ _) rfl)
 case after=>
  intro u wn hb hf
  have e6:u 6=_:=hf 8 6 (by omega) rfl
  clear hf
  simp only [putAll,Act.put,List.setIfInBounds_toArray,List.set_cons_zero,List.set_cons_succ,List.drop_succ_cons,List.drop_zero,List.drop_nil]
  rw [e6]
  rw [HKD.out]
  have zB:=zA.below hb
  have yb1:=below_trans yb0 hb
  clear hw1 hw2 LE HKD zA yb0 hb
  obtain ⟨⟨j0,j1,-,-,-⟩,j2,-⟩:=id zB
  have hw1:IntKind.i64.wrap (k-e)=k-e:=IntWalk.i64_in _ (by omega)
  go_upto_region 4 with (go_at_call 152;(with_reducible refine (CU.out _ _ _ (H.out.below yb1)).mono ?_);rintro e w1 ⟨a1,rfl,hN1,hb1⟩)
  have zC:=zB.below hb1
  have yb2:=below_trans yb1 hb1
  have hql:(limbs q).length≤2:=(digs_len_le 4294967296 (by omega) q 2).2 (by omega)
  have lQ:=hid (limbs_lim q)
  have lV:=hid (lval_limbs q)
  obtain ⟨-,-,hcells⟩:=hN1
  clear j0 j1 j2 zB yb1 hb1 hw1 CU H
  go_wp2_with fail
  go_loop [9,10,11,37] (fun n _ _ i=> ∃(k:Nat),k≤(limbs q).length∧i=.int .i64 k∧n=.int .u64 ((lval ((limbs q).take k):Nat):Int)) (fun _ _ _ i=>(limbs q).length-(intOf i).toNat)
  case atStart=>exact ⟨0,by omega,rfl,rfl⟩
  case round=>
   obtain ⟨kk,hkk,rfl,rfl⟩:=hrel
   by_cases hlt:kk<(limbs q).length
   ·obtain ⟨b1,o1,rfl,hc⟩:=hcells (by omega)
    have hc1:=hc kk hlt
    obtain ⟨x,hx⟩: ∃x,x=(limbs q).getD kk 0:=⟨_,rfl⟩
    have hx1:x<4294967296:=by rw [hx];exact lQ.out.getD (by omega) kk
    unfold lb at hc1
    rw [←hx] at hc1
    have hv:=lval_take_succ (limbs q) kk hlt
    rw [←hx] at hv
    have hvt:=lval_take_lt (limbs q) kk lQ.out (by omega)
    obtain ⟨V,hV⟩: ∃V,V=lval ((limbs q).take kk):=⟨_,rfl⟩
    rw [←hV] at hv hvt ⊢
    have HV:=hid hv
    have hk2:kk=0∨kk=1:=by omega
    clear hv hx hV hc hcells
    rcases hk2 with rfl|rfl
    ·have hV0:V=0:=by simpa using hvt
     subst hV0
     rw [Nat.add_zero] at hc1
     clear hvt
     go_wp2_with fail
     go_round
     case rel=>exact ⟨1,by omega,by go_num,by rw [HV.out];exact val_or0 x hx1⟩
     case measure=>simp [intOf];omega
    ·clear hkk
     go_wp2_with fail
     go_round
     case rel=>exact ⟨2,by omega,by go_num,by rw [HV.out];exact val_or1 V x hvt hx1⟩
     case measure=>simp [intOf];omega
   ·have hke:kk=(limbs q).length:=by omega
    have hfin:lval ((limbs q).take kk)=q:=by rw [hke,List.take_of_length_le (Nat.le_refl _),lV.out]
    rw [hfin]
    obtain ⟨⟨j0,j1,-,-,-⟩,j2,-⟩:=id zC
    have HR1:=hid hR1
    have HR2:=hid hR2
    have hq0:0≤(q:Int):=by omega
    have hq1:(q:Int)≤9007199254740992:=by omega
    have QI:=hid (show (q:Int)=((q:Nat):Int) from rfl)
    clear hfin hke hcells lQ lV hql hz hR1 hR2 e6 hqm
    cases neg
    ·by_cases hA:(q:Int)=9007199254740992
     ·have hA2:((q:Int)==9007199254740992)=true:=beq_iff_eq.2 hA
      have HA:=hid hA
      have hRv:=HR2.out (by omega)
      by_cases hO:971<k+1
      ·have HR:=hid (show 9218868437227405312≤R by omega)
       clear hA hRv
       by_cases hm0:mode=0
       ·subst hm0
        go_wp2_with fail
        go_ret2
        exact ⟨ret2 (fin_yes (neg:=false) rfl HR.out (by decide)) (fin_ch HR.out),yb2⟩
       have m0:(mode==0)=false:=beq_eq_false_iff_ne.2 hm0
       by_cases hm4:mode=4
       ·subst hm4
        go_wp2_with fail
        go_ret2
        exact ⟨ret2 (fin_yes (neg:=false) rfl HR.out (by decide)) (fin_ch HR.out),yb2⟩
       have m4:(mode==4)=false:=beq_eq_false_iff_ne.2 hm4
       by_cases hm1:mode=1
       ·subst hm1
        go_wp2_with fail
        go_ret2
        exact ⟨ret2 (by first|exact fin_yes (neg:=false) rfl HR.out (by decide)|exact fin_no (neg:=false) rfl HR.out (by decide)) (fin_ch HR.out),yb2⟩
       have m1:(mode==1)=false:=beq_eq_false_iff_ne.2 hm1
       by_cases hm2:mode=2
       ·subst hm2
        go_wp2_with fail
        go_ret2
        exact ⟨ret2 (by first|exact fin_yes (neg:=false) rfl HR.out (by decide)|exact fin_no (neg:=false) rfl HR.out (by decide)) (fin_ch HR.out),yb2⟩
       have m2:(mode==2)=false:=beq_eq_false_iff_ne.2 hm2
       have HO:=hid (show overA false mode=false by simp [overA,hm0,hm1,hm2,hm4])
       clear hm0 hm1 hm2 hm4
       go_wp2_with fail
       go_ret2
       exact ⟨ret2 (fin_no (neg:=false) rfl HR.out HO.out) (fin_ch HR.out),yb2⟩
      ·have HR:=hid (show R<9218868437227405312 by omega)
       have HV:=hid hRv
       clear hA hRv
       go_wp2_with fail
       go_ret2
       exact ⟨ret2 (fin_form (neg:=false) rfl (by omega) (by omega) (by omega) (by omega) (by have:=HV.out;have:=HA.out;omega)) (fin_ch2 HR.out),yb2⟩
     ·have hA2:((q:Int)==9007199254740992)=false:=beq_eq_false_iff_ne.2 hA
      by_cases hO:971<k
      ·have HR:=hid (show 9218868437227405312≤R by
        by_cases hs:q<4503599627370496
        ·have:=(HR1.out hs).2;omega
        ·have:=HR2.out (by omega);omega)
       by_cases hm0:mode=0
       ·subst hm0
        go_wp2_with fail
        go_ret2
        exact ⟨ret2 (fin_yes (neg:=false) rfl HR.out (by decide)) (fin_ch HR.out),yb2⟩
       have m0:(mode==0)=false:=beq_eq_false_iff_ne.2 hm0
       by_cases hm4:mode=4
       ·subst hm4
        go_wp2_with fail
        go_ret2
        exact ⟨ret2 (fin_yes (neg:=false) rfl HR.out (by decide)) (fin_ch HR.out),yb2⟩
       have m4:(mode==4)=false:=beq_eq_false_iff_ne.2 hm4
       by_cases hm1:mode=1
       ·subst hm1
        go_wp2_with fail
        go_ret2
        exact ⟨ret2 (by first|exact fin_yes (neg:=false) rfl HR.out (by decide)|exact fin_no (neg:=false) rfl HR.out (by decide)) (fin_ch HR.out),yb2⟩
       have m1:(mode==1)=false:=beq_eq_false_iff_ne.2 hm1
       by_cases hm2:mode=2
       ·subst hm2
        go_wp2_with fail
        go_ret2
        exact ⟨ret2 (by first|exact fin_yes (neg:=false) rfl HR.out (by decide)|exact fin_no (neg:=false) rfl HR.out (by decide)) (fin_ch HR.out),yb2⟩
       have m2:(mode==2)=false:=beq_eq_false_iff_ne.2 hm2
       have HO:=hid (show overA false mode=false by simp [overA,hm0,hm1,hm2,hm4])
       clear hm0 hm1 hm2 hm4
       go_wp2_with fail
       go_ret2
       exact ⟨ret2 (fin_no (neg:=false) rfl HR.out HO.out) (fin_ch HR.out),yb2⟩
      ·by_cases hs:(q:Int)<4503599627370496
       ·have HV:=hid (HR1.out (by omega)).1
        go_wp2_with fail
        go_ret2
        exact ⟨ret2 (fin_small (neg:=false) rfl (by omega) (by rw [HV.out];omega) HV.out) (fin_ch2 (by rw [HV.out];omega)),yb2⟩
       ·have HV:=hid (HR2.out (by omega))
        have HR:=hid (show R<9218868437227405312 by have:=HV.out;omega)
        go_wp2_with fail
        go_ret2
        exact ⟨ret2 (fin_form (neg:=false) rfl (by omega) (by omega) (by omega) (by omega) (by have:=HV.out;omega)) (fin_ch2 HR.out),yb2⟩
    ·by_cases hA:(q:Int)=9007199254740992
     ·have hA2:((q:Int)==9007199254740992)=true:=beq_iff_eq.2 hA
      have HA:=hid hA
      have hRv:=HR2.out (by omega)
      by_cases hO:971<k+1
      ·have HR:=hid (show 9218868437227405312≤R by omega)
       clear hA hRv
       by_cases hm0:mode=0
       ·subst hm0
        go_wp2_with fail
        go_ret2
        exact ⟨ret2 (fin_yes (neg:=true) rfl HR.out (by decide)) (fin_ch HR.out),yb2⟩
       have m0:(mode==0)=false:=beq_eq_false_iff_ne.2 hm0
       by_cases hm4:mode=4
       ·subst hm4
        go_wp2_with fail
        go_ret2
        exact ⟨ret2 (fin_yes (neg:=true) rfl HR.out (by decide)) (fin_ch HR.out),yb2⟩
       have m4:(mode==4)=false:=beq_eq_false_iff_ne.2 hm4
       by_cases hm1:mode=1
       ·subst hm1
        go_wp2_with fail
        go_ret2
        exact ⟨ret2 (by first|exact fin_yes (neg:=true) rfl HR.out (by decide)|exact fin_no (neg:=true) rfl HR.out (by decide)) (fin_ch HR.out),yb2⟩
       have m1:(mode==1)=false:=beq_eq_false_iff_ne.2 hm1
       by_cases hm2:mode=2
       ·subst hm2
        go_wp2_with fail
        go_ret2
        exact ⟨ret2 (by first|exact fin_yes (neg:=true) rfl HR.out (by decide)|exact fin_no (neg:=true) rfl HR.out (by decide)) (fin_ch HR.out),yb2⟩
       have m2:(mode==2)=false:=beq_eq_false_iff_ne.2 hm2
       have HO:=hid (show overA true mode=false by simp [overA,hm0,hm1,hm2,hm4])
       clear hm0 hm1 hm2 hm4
       go_wp2_with fail
       go_ret2
       exact ⟨ret2 (fin_no (neg:=true) rfl HR.out HO.out) (fin_ch HR.out),yb2⟩
      ·have HR:=hid (show R<9218868437227405312 by omega)
       have HV:=hid hRv
       clear hA hRv
       go_wp2_with fail
       go_ret2
       exact ⟨ret2 (fin_form (neg:=true) rfl (by omega) (by omega) (by omega) (by omega) (by have:=HV.out;have:=HA.out;omega)) (fin_ch2 HR.out),yb2⟩
     ·have hA2:((q:Int)==9007199254740992)=false:=beq_eq_false_iff_ne.2 hA
      by_cases hO:971<k
      ·have HR:=hid (show 9218868437227405312≤R by
        by_cases hs:q<4503599627370496
        ·have:=(HR1.out hs).2;omega
        ·have:=HR2.out (by omega);omega)
       by_cases hm0:mode=0
       ·subst hm0
        go_wp2_with fail
        go_ret2
        exact ⟨ret2 (fin_yes (neg:=true) rfl HR.out (by decide)) (fin_ch HR.out),yb2⟩
       have m0:(mode==0)=false:=beq_eq_false_iff_ne.2 hm0
       by_cases hm4:mode=4
       ·subst hm4
        go_wp2_with fail
        go_ret2
        exact ⟨ret2 (fin_yes (neg:=true) rfl HR.out (by decide)) (fin_ch HR.out),yb2⟩
       have m4:(mode==4)=false:=beq_eq_false_iff_ne.2 hm4
       by_cases hm1:mode=1
       ·subst hm1
        go_wp2_with fail
        go_ret2
        exact ⟨ret2 (by first|exact fin_yes (neg:=true) rfl HR.out (by decide)|exact fin_no (neg:=true) rfl HR.out (by decide)) (fin_ch HR.out),yb2⟩
       have m1:(mode==1)=false:=beq_eq_false_iff_ne.2 hm1
       by_cases hm2:mode=2
       ·subst hm2
        go_wp2_with fail
        go_ret2
        exact ⟨ret2 (by first|exact fin_yes (neg:=true) rfl HR.out (by decide)|exact fin_no (neg:=true) rfl HR.out (by decide)) (fin_ch HR.out),yb2⟩
       have m2:(mode==2)=false:=beq_eq_false_iff_ne.2 hm2
       have HO:=hid (show overA true mode=false by simp [overA,hm0,hm1,hm2,hm4])
       clear hm0 hm1 hm2 hm4
       go_wp2_with fail
       go_ret2
       exact ⟨ret2 (fin_no (neg:=true) rfl HR.out HO.out) (fin_ch HR.out),yb2⟩
      ·by_cases hs:(q:Int)<4503599627370496
       ·have HV:=hid (HR1.out (by omega)).1
        go_wp2_with fail
        go_ret2
        exact ⟨ret2 (fin_small (neg:=true) rfl (by omega) (by rw [HV.out];omega) HV.out) (fin_ch2 (by rw [HV.out];omega)),yb2⟩
       ·have HV:=hid (HR2.out (by omega))
        have HR:=hid (show R<9218868437227405312 by have:=HV.out;omega)
        go_wp2_with fail
        go_ret2
        exact ⟨ret2 (fin_form (neg:=true) rfl (by omega) (by omega) (by omega) (by omega) (by have:=HV.out;omega)) (fin_ch2 HR.out),yb2⟩
end Go.Proofs.YtfphmlmgjhebjaaGreatDoor
namespace Go.Ulp
open Go.RowKit
def knownB (mode:Int):Bool:=decide (0≤mode∧mode≤4)
def RetDy (w:World) (neg:Bool) (m:Nat) (x:Int) (e:Ending) (w':World):Prop:=
 ∃am cm,e=.returned (.agg #[.bool neg,.slice am (limbs m).length cm,.int .i64 x])∧Ns .u32 w' am cm (limbs m)∧Below w.heap.size w w'
end Go.Ulp
namespace Go.Proofs.YtfphmlmgjhebjaaGreatDoor
open Go.RowKit Go.Ulp
set_option maxHeartbeats 1000000
set_option maxRecDepth 100000
theorem known_any (mode:Int) (w:World):Calls Tryz.prog 78 #[.int .i64 mode] w fun e w'=>e=.returned (.bool (knownB mode))∧w=w':=by
 by_cases h:0≤mode
 ·have H:=hid (show decide (mode≤4)=knownB mode by unfold knownB;rw [decide_eq_decide];omega)
  go_enter Tryz.func78,Tryz.ntmps78
  go_wp2_with fail
  go_ret
  exact ⟨ret_bool H.out,rfl⟩
 ·have H:=hid (show false=knownB mode by unfold knownB;rw [eq_comm,decide_eq_false_iff_not];omega)
  go_enter Tryz.func78,Tryz.ntmps78
  go_wp2_with fail
  go_ret
  exact ⟨ret_bool H.out,rfl⟩
end Go.Proofs.YtfphmlmgjhebjaaGreatDoor
namespace Go.Ulp
open Go.RowKit
def RetX3 (w:World) (x:Int) (ch:Bool) (er:Int) (e:Ending) (w':World):Prop:=e=.returned (.tuple #[.int .u64 x,.bool ch,.int .i64 er])∧Below w.heap.size w w'
end Go.Ulp
namespace Go.Proofs.YtfphmlmgjhebjaaGreatDoor
open Go.RowKit Go.Ulp
set_option maxHeartbeats 1000000
set_option maxRecDepth 100000
end Go.Proofs.YtfphmlmgjhebjaaGreatDoor
namespace Go.Ulp
open Go.RowKit
def rkD (n:Int):Dy:=nrm (rvs n) (-1074)
theorem rkD_fv (x:Int) (h0:0≤x) (h1:x<9223372036854775808):fv x=rkD x:=by
 rw [fv_rank x h0 (by omega)]
 unfold rkD rankOf
 rw [if_neg (by omega)];congr 2;omega
theorem rvi_parts2 (h q:Nat) (hq:q<9007199254740992) (hh:h=0∨4503599627370496≤q):rvi (h*4503599627370496+q)=q*2^h:=by
 unfold rvi
 by_cases h1:h*4503599627370496+q<4503599627370496
 ·rw [if_pos h1,show h=0 by omega];omega
 ·rw [if_neg h1]
  have:4503599627370496≤q:=by omega
  rw [show (h*4503599627370496+q)/4503599627370496-1=h by omega,show (h*4503599627370496+q)%4503599627370496+4503599627370496=q by omega]
theorem rvi_pow (h:Nat):rvi (h*4503599627370496+4503599627370496)=2^(52+h):=by
 rw [rvi_parts2 h 4503599627370496 (by omega) (.inr (by omega)),Nat.pow_add]
end Go.Ulp
namespace Go.Proofs.YtfphmlmgjhebjaaGreatDoor
open Go.RowKit Go.Ulp
set_option maxHeartbeats 1000000
set_option maxRecDepth 100000
end Go.Proofs.YtfphmlmgjhebjaaGreatDoor
namespace Go.Ulp
end Go.Ulp
namespace Go.Proofs.YtfphmlmgjhebjaaGreatDoor
open Go.RowKit Go.Ulp
set_option maxHeartbeats 1000000
set_option maxRecDepth 100000
end Go.Proofs.YtfphmlmgjhebjaaGreatDoor
namespace Go.Ulp
open Go.RowKit
end Go.Ulp
namespace Go.Proofs.YtfphmlmgjhebjaaGreatDoor
open Go.RowKit Go.Ulp
set_option maxHeartbeats 1000000
set_option maxRecDepth 100000
end Go.Proofs.YtfphmlmgjhebjaaGreatDoor
namespace Go.Ulp
open Go.RowKit
theorem QD.zero {t:TypeId} {w:World} {A T:Nat} (hA:0<A):QD t w (0,0) A T (.agg #[.bool false,.slice none 0 0,.int .i64 0]):=
 ⟨0,0,none,0,rfl,Nz.nil' _ _ (by unfold maxLen;omega),rfl,Nat.two_pow_pos A,Nat.zero_le _⟩
end Go.Ulp
namespace Go.Proofs.YtfphmlmgjhebjaaGreatDoor
open Go.RowKit Go.Ulp
set_option maxHeartbeats 1000000
set_option maxRecDepth 100000
end Go.Proofs.YtfphmlmgjhebjaaGreatDoor
namespace Go.Ulp
open Go.RowKit
end Go.Ulp
namespace Go.Proofs.YtfphmlmgjhebjaaGreatDoor
open Go.RowKit Go.Ulp
set_option maxHeartbeats 1000000
set_option maxRecDepth 100000
end Go.Proofs.YtfphmlmgjhebjaaGreatDoor
namespace Go.Ulp
open Go.RowKit
def rX (D:Dy) (mode:Int):Int:=numX (decide (D.1<0)) D.1.natAbs D.2 mode
def rC (D:Dy) (mode:Int):Bool:=numC (decide (D.1<0)) D.1.natAbs D.2 mode
def isNan (x:Int):Bool:=classOf x==5
def isInf (x:Int):Bool:=classOf x==4
def isZer (x:Int):Bool:=classOf x==1
theorem class_inf (x:Int) (h0:0≤x) (h1:x<18446744073709551616):classOf x=4↔absOf x=9218868437227405312:=by
 have a:=class_nan x h0 h1
 have b:=class_val x h0 h1
 have c:=class_bd x
 have d:classOf x=4↔(4≤classOf x∧ ¬classOf x=5):=by omega
 rw [d,a,b]
 omega
theorem class_zer (x:Int) (h0:0≤x) (h1:x<18446744073709551616):classOf x=1↔absOf x=0:=by
 unfold classOf absOf expOf fracOf
 split
 ·split<;>omega
 ·split
  ·omega
  ·split<;>omega
theorem inf_bits (x:Int) (h0:0≤x) (h1:x<18446744073709551616) (h:classOf x=4):x=if negB x then 18442240474082181120 else 9218868437227405312:=by
 have a:=(class_inf x h0 h1).1 h
 unfold absOf at a
 unfold negB
 by_cases c:9223372036854775808≤x
 ·rw [decide_eq_true c,if_pos rfl];omega
 ·rw [decide_eq_false c,if_neg (by simp)];omega
theorem zer_bits (x:Int) (h0:0≤x) (h1:x<18446744073709551616) (h:classOf x=1):x=if negB x then 9223372036854775808 else 0:=by
 have a:=(class_zer x h0 h1).1 h
 unfold absOf at a
 unfold negB
 by_cases c:9223372036854775808≤x
 ·rw [decide_eq_true c,if_pos rfl];omega
 ·rw [decide_eq_false c,if_neg (by simp)];omega
def uV (x:Int):Int:=if classOf x<4 then rvs (rankOf x) else 0
theorem fv_uV (x:Int) (h0:0≤x) (h1:x<18446744073709551616) (h:classOf x<4):fv x=nrm (uV x) (-1074):=by
 unfold uV;rw [if_pos h];exact fv_rank x h0 h1
theorem rvi_bd (B:Nat) (hB:2098≤B) (n:Nat) (h:n<9218868437227405312):rvi n<2^B:=by
 have a:=rvi_mono h
 obtain ⟨k,hk⟩: ∃k:Nat,k=2046:=⟨_,rfl⟩
 have e:(9218868437227405312:Nat)=k*4503599627370496+4503599627370496:=by omega
 rw [e,rvi_pow] at a
 exact Nat.lt_of_lt_of_le a (Nat.pow_le_pow_right (by omega) (by omega))
theorem rvs_bd (B:Nat) (hB:2098≤B) (r:Int) (h:r.natAbs<9218868437227405312):(rvs r).natAbs<2^B:=by
 have a:=rvi_bd B hB _ h
 unfold rvs
 split<;>omega
theorem uV_bd (B:Nat) (hB:2098≤B) (x:Int) (h0:0≤x) (h1:x<18446744073709551616):(uV x).natAbs<2^B:=by
 unfold uV
 split
 ·rename_i h
  have a: ¬4≤classOf x:=by omega
  rw [class_val x h0 h1] at a
  refine rvs_bd B hB _ ?_
  rw [rank_abs x h0 h1]
  have b:0≤absOf x:=by unfold absOf;omega
  split<;>omega
 ·exact Nat.two_pow_pos B
theorem uV_zer (x:Int) (h0:0≤x) (h1:x<18446744073709551616) (h:classOf x=1):uV x=0:=by
 unfold uV
 have a:=(class_zer x h0 h1).1 h
 rw [rank_abs x h0 h1,a]
 split
 ·split<;>rfl
 ·rfl
theorem uV_zero_iff (x:Int) (h0:0≤x) (h1:x<18446744073709551616) (h:classOf x<4):uV x=0↔classOf x=1:=by
 refine ⟨fun e=>?_,uV_zer x h0 h1⟩
 unfold uV at e
 rw [if_pos h] at e
 have c:cmpI (rvs (rankOf x)) (rvs 0)=0:=by rw [e,rvs_zero];rfl
 rw [rvs_cmp,cmpI_eq_zero,rank_abs x h0 h1] at c
 rw [class_zer x h0 h1]
 split at c<;>omega
def anyTo (p:Int→Bool) (L:List Nat):Nat→Bool
 |0=>false
 |i+1=>anyTo p L i||p (lb L i)
def cntTo (p:Int→Bool) (L:List Nat):Nat→Nat
 |0=>0
 |i+1=>cntTo p L i+(if p (lb L i) then 1 else 0)
def sumTo (L:List Nat):Nat→Int
 |0=>0
 |i+1=>sumTo L i+uV (lb L i)
def infTo (L:List Nat):Nat→Int
 |0=>0
 |i+1=>if isInf (lb L i) then lb L i else infTo L i
def clashTo (L:List Nat):Nat→Bool
 |0=>false
 |i+1=>if isInf (lb L i) then clashTo L i||(decide (infTo L i≠0)&&decide (infTo L i≠lb L i)) else clashTo L i
def pInf (x:Int):Bool:=isInf x&&!negB x
def mInf (x:Int):Bool:=isInf x&&negB x
def pZer (x:Int):Bool:=isZer x&&!negB x
def mZer (x:Int):Bool:=isZer x&&negB x
theorem cnt_le (p:Int→Bool) (L:List Nat): ∀i,cntTo p L i≤i
 |0=>Nat.le_refl _
 |i+1=>by have:=cnt_le p L i;unfold cntTo;split<;>omega
theorem sumTo_bd (B:Nat) (hB:2098≤B) (L:List Nat) (hL: ∀j,lb L j<18446744073709551616): ∀i,(sumTo L i).natAbs<2^(B+i)
 |0=>Nat.two_pow_pos _
 |i+1=>by
  have h:=sumTo_bd B hB L hL i
  have h2:=uV_bd (B+i) (by omega) (lb L i) (lb_nonneg L i) (hL i)
  have:=abs_add_lt h h2
  exact this
theorem inf_state (L:List Nat) (hL: ∀j,lb L j<18446744073709551616): ∀i,
 (infTo L i=0∧anyTo pInf L i=false∧anyTo mInf L i=false∧clashTo L i=false)
 ∨(infTo L i=9218868437227405312∧anyTo pInf L i=true∧clashTo L i=anyTo mInf L i)
 ∨(infTo L i=18442240474082181120∧anyTo mInf L i=true∧clashTo L i=anyTo pInf L i)
 |0=>.inl ⟨rfl,rfl,rfl,rfl⟩
 |i+1=>by
  have h:=inf_state L hL i
  have h0:=lb_nonneg L i
  have h1:=hL i
  rw [show infTo L (i+1)=if isInf (lb L i) then lb L i else infTo L i from rfl,show clashTo L (i+1)=if isInf (lb L i) then clashTo L i||(decide (infTo L i≠0)&&decide (infTo L i≠lb L i)) else clashTo L i from rfl,
   show anyTo pInf L (i+1)=(anyTo pInf L i||pInf (lb L i)) from rfl,show anyTo mInf L (i+1)=(anyTo mInf L i||mInf (lb L i)) from rfl]
  cases hi:isInf (lb L i)
  ·have hp:pInf (lb L i)=false:=by unfold pInf;rw [hi];rfl
   have hm:mInf (lb L i)=false:=by unfold mInf;rw [hi];rfl
   rw [hp,hm,Bool.or_false,Bool.or_false,if_neg (by simp),if_neg (by simp)]
   exact h
  ·have e:=inf_bits (lb L i) h0 h1 (beq_iff_eq.1 hi)
   rw [if_pos rfl,if_pos rfl]
   cases hn:negB (lb L i)
   ·have hp:pInf (lb L i)=true:=by unfold pInf;rw [hi,hn];rfl
    have hm:mInf (lb L i)=false:=by unfold mInf;rw [hi,hn];rfl
    rw [hn,if_neg (by simp)] at e
    rw [hp,hm,e,Bool.or_false,Bool.or_true]
    right;left
    refine ⟨rfl,rfl,?_⟩
    rcases h with ⟨a,b,c,d⟩|⟨a,b,c⟩|⟨a,b,c⟩
    ·rw [a,d,c];rfl
    ·rw [a,c];simp
    ·rw [a,b];simp
   ·have hp:pInf (lb L i)=false:=by unfold pInf;rw [hi,hn];rfl
    have hm:mInf (lb L i)=true:=by unfold mInf;rw [hi,hn];rfl
    rw [hn,if_pos rfl] at e
    rw [hp,hm,e,Bool.or_false,Bool.or_true]
    right;right
    refine ⟨rfl,rfl,?_⟩
    rcases h with ⟨a,b,c,d⟩|⟨a,b,c⟩|⟨a,b,c⟩
    ·rw [a,d,b];rfl
    ·rw [a,b];simp
    ·rw [a,c];simp
def sNan (L:List Nat):Bool:=anyTo isNan L L.length||(anyTo pInf L L.length&&anyTo mInf L L.length)
def sInf (L:List Nat):Bool:=anyTo pInf L L.length||anyTo mInf L L.length
def sDy (L:List Nat):Dy:=nrm (sumTo L L.length) (-1074)
def sumX (L:List Nat) (mode:Int):Int:=
 if sNan L then 9221120237041090560 else if sInf L then (if anyTo mInf L L.length then 18442240474082181120 else 9218868437227405312)
 else if sumTo L L.length≠0 then rX (sDy L) mode else if cntTo pZer L L.length=L.length then 0 else if cntTo mZer L L.length=L.length then 9223372036854775808 else if mode=2 then 9223372036854775808 else 0
def sumC (L:List Nat) (mode:Int):Bool:=if sNan L then false else if sInf L then false else if sumTo L L.length≠0 then rC (sDy L) mode else false
theorem addD_step (x y:Int):addD (nrm x (-1074)) (nrm y (-1074))=nrm (x+y) (-1074):=by
 have h:=nrm_add x (-1074) y (-1074) (-1074) (.inl (by omega)) (.inl (by omega))
 rw [sc_self,sc_self] at h
 exact h.symm
end Go.Ulp
namespace Go.Proofs.YtfphmlmgjhebjaaGreatDoor
open Go.RowKit Go.Ulp
set_option maxHeartbeats 1000000
set_option maxRecDepth 100000
theorem numberD_any (v:Value) (D:Dy) (mode:Int) (w:World) (hv:VD w D v) (hl:(limbs D.1.natAbs).length≤10000) (he: -100000≤D.2∧D.2≤100000) (hI:IsN D):
 Calls Tryz.prog 86 #[v,.int .i64 mode] w (RetX w (rX D mode) (rC D mode)):=by
 obtain ⟨am,cm,rfl,hN⟩:=hv
 exact number_any (decide (D.1<0)) am cm D.1.natAbs D.2 mode w hN hl he (fun h=>by
  rcases hI with h2|h2
  ·exact h2.2
  ·rw [h] at h2;omega)
end Go.Proofs.YtfphmlmgjhebjaaGreatDoor
namespace Go.Ulp
open Go.RowKit
theorem limbs_short (A n:Nat) (hn:A≤32*n) (M:Nat) (h:M<2^A):(limbs M).length≤n:=
 (limbs_le_bits M n).2 (Nat.lt_of_lt_of_le h (Nat.pow_le_pow_right (by omega) hn))
def qst (m d K:Nat):Nat:=4*(m*2^K/d)+(if m*2^K%d=0 then 0 else 1)
end Go.Ulp
namespace Go.Proofs.YtfphmlmgjhebjaaGreatDoor
open Go.RowKit Go.Ulp
set_option maxHeartbeats 4000000
set_option maxRecDepth 100000
theorem sticky_any (neg lost:Bool) (a0:Option Addr) (c0 q:Nat) (x:Int) (w:World) (h0:Ns .u32 w a0 c0 (limbs q)) (hq:(limbs q).length≤100000) (hx: -1000000≤x∧x≤1000000):
 Calls Tryz.prog 178 #[.bool neg,.slice a0 (limbs q).length c0,.bool lost,.int .i64 x] w (RetDy w neg (4*q+if lost=true then 1 else 0) (x-2)):=by
 have l4:=limbs_len_mul q 4 100000 100000 hq (Nat.le_trans (limbs_short 3 2 (by omega) 4 (by decide)) (by omega))
 have LE:=hid (show ∀w,Ns .u32 w a0 c0 (limbs q)→Calls Tryz.prog 172 #[.slice a0 (limbs q).length c0,.int .i64 2] w fun e w'=>RetN w (4*q) e w' from fun w h=>by
  have h9:=leftN_any a0 c0 q 2 w h (by omega) (by omega)
  rw [show q*2^2=4*q by omega] at h9
  exact h9)
 rw [Nat.mul_comm q 4] at l4
 have OF:=hid (show ∀w,Calls Tryz.prog 95 #[.int .u64 1] w fun e w'=>RetN w 1 e w' from fun w=>natOf_any 1 (by omega) w)
 have PL:=hid (fun a0 a1 c0 c1 w h0 h1=>plus_any a0 a1 c0 c1 (4*q) 1 w h0 h1 (by omega) (Nat.le_trans (limbs_short 3 2 (by omega) 1 (by decide)) (by omega)))
 have hw:IntKind.i64.wrap (x-2)=x-2:=IntWalk.i64_in _ (by omega)
 have H0:=hid h0
 have hcap:=h0.1
 have hcap2:=h0.2.1
 unfold maxLen at hcap2
 have zR0:QL 67 (w.alloc (.cells #[.bool false,.slice none 0 0,.int .i64 0] 67)) w.heap.size false (.slice none 0 0) 0:=QL.made rfl
 have yb0:=below_alloc w (.cells #[.bool false,.slice none 0 0,.int .i64 0] 67)
 obtain ⟨M4,hM4⟩: ∃M,M=4*q:=⟨_,rfl⟩
 rw [←hM4] at LE PL l4 ⊢
 clear hM4 h0
 cases lost
 ·go_enter Tryz.func178,Tryz.ntmps178
  go_upto_region 2 with (go_at_call 172;(with_reducible refine (LE.out _ (H0.out.below yb0)).mono ?_);rintro en w1 ⟨a1,rfl,hN1,hb1⟩)
  have zR:=zR0.below hb1
  obtain ⟨⟨k0,k1,f0,f1,hs2⟩,k2,f2⟩:=id zR
  have yb1:=below_trans yb0 hb1
  go_wp2_with fail
  refine bodyPost_ret (by simp [results,Tryz.results178,go_sem,k0,k1,k2];try rfl) rfl ?_
  exact ⟨a1,_,rfl,hN1.set3 zR (by intro x h;cases h) _ _ _,((yb1.setCell (by first|omega|(simp;done)|(simp;omega)) _).setCell (by first|omega|(simp;done)|(simp;omega)) _).setCell (by first|omega|(simp;done)|(simp;omega)) _⟩
 ·go_enter Tryz.func178,Tryz.ntmps178
  go_upto_region 2 with (go_at_call 172;(with_reducible refine (LE.out _ (H0.out.below yb0)).mono ?_);rintro en w1 ⟨a1,rfl,hN1,hb1⟩)
  have HN1:=hid hN1
  go_upto_region 4 with (first
   |(go_at_call 95;(with_reducible refine (OF.out _).mono ?_);rintro en w2 ⟨a2,rfl,hN2,hb2⟩)
   |(go_at_call 163;(with_reducible refine (PL.out _ _ _ _ _ (HN1.out.below hb2) hN2).mono ?_);rintro en w3 ⟨a3,rfl,hN3,hb3⟩))
  have yb1:=below_trans (below_trans (below_trans yb0 hb1) hb2) hb3
  have zR:=((zR0.below hb1).below hb2).below hb3
  obtain ⟨⟨k0,k1,f0,f1,hs2⟩,k2,f2⟩:=id zR
  go_wp2_with fail
  refine bodyPost_ret (by simp [results,Tryz.results178,go_sem,k0,k1,k2];try rfl) rfl ?_
  exact ⟨a3,_,rfl,hN3.set3 zR (by intro x h;cases h) _ _ _,((yb1.setCell (by first|omega|(simp;done)|(simp;omega)) _).setCell (by first|omega|(simp;done)|(simp;omega)) _).setCell (by first|omega|(simp;done)|(simp;omega)) _⟩
end Go.Proofs.YtfphmlmgjhebjaaGreatDoor
namespace Go.Ulp
open Go.RowKit
def Fact.nn (q r:Nat):Fact:=⟨fun v w=> ∃ao c bo d,v=.tuple #[.slice ao (limbs q).length c,.slice bo (limbs r).length d]∧Ns .u32 w ao c (limbs q)∧Ns .u32 w bo d (limbs r),fun _ _ _ h hb=>by
 obtain ⟨ao,c,bo,d,h1,h2,h3⟩:=h
 exact ⟨ao,c,bo,d,h1,h2.below hb,h3.below hb⟩⟩
def rK (M N:Nat):Nat:=(max (0:Int) (80+bl N-bl M)).toNat
theorem rK_max (M N:Nat):max (0:Int) (80+bl N-bl M)=(rK M N:Int):=by unfold rK;omega
end Go.Ulp
namespace Go.Proofs.YtfphmlmgjhebjaaGreatDoor
open Go.RowKit Go.Ulp
set_option maxHeartbeats 4000000
set_option maxRecDepth 100000
end Go.Proofs.YtfphmlmgjhebjaaGreatDoor
namespace Go.Ulp
open Go.RowKit
theorem qfloor_big (M N:Nat) (hM:0<M) (hN:0<N):2^79≤M*2^rK M N/N:=by
 have h1:=pow_bl M hM
 have h2:=lt_bl N
 have h3:=(bl_pos M).2 hM
 have hk:80+bl N≤rK M N+bl M:=by unfold rK;omega
 rw [Nat.le_div_iff_mul_le hN]
 have h4:2^(bl M-1)*2^rK M N≤M*2^rK M N:=Nat.mul_le_mul_right _ h1
 rw [←Nat.pow_add] at h4
 have h5:2^79*N≤2^79*2^bl N:=Nat.mul_le_mul_left _ (by omega)
 rw [←Nat.pow_add] at h5
 have h6:2^(79+bl N)≤2^(bl M-1+rK M N):=Nat.pow_le_pow_right (by omega) (by omega)
 omega
end Go.Ulp
