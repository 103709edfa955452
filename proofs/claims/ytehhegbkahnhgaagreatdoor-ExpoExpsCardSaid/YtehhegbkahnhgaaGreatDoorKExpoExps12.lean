/- ExpoExps: what the proof leans on, part 12 (Dd2 Rn5). -/
import Derived.Test.YtehhegbkahnhgaaGreatDoorKExpoExps5
import Derived.Test.YtehhegbkahnhgaaGreatDoorKExpoExps6
import Derived.Test.YtehhegbkahnhgaaGreatDoorKExpoExps7
import Derived.Test.YtehhegbkahnhgaaGreatDoorKExpoExps10
import Derived.Test.YtehhegbkahnhgaaGreatDoorKExpoExps11
set_option linter.unusedVariables false
set_option linter.unusedSimpArgs false
namespace Go.Ulp
open Go.RowKit
def dyB (n:Nat) (e:Int):Bool:=decide (n≤400∧ -10000≤e∧e≤10000)
end Go.Ulp
namespace Go.Proofs.YtehhegbkahnhgaaGreatDoor
open Go.RowKit Go.Ulp
set_option maxHeartbeats 1000000
set_option maxRecDepth 100000
end Go.Proofs.YtehhegbkahnhgaaGreatDoor
namespace Go.Ulp
open Go.RowKit
def DC (w:World) (g o:Nat) (neg:Bool) (v:Value) (e:Int):Prop:=w.cell? ⟨g,o,none⟩=some (.bool neg)∧w.cell? ⟨g,o+1,none⟩=some v∧w.cell? ⟨g,o+2,none⟩=some (.int .i64 e)
theorem DC.below {w w':World} {g o:Nat} {neg:Bool} {v:Value} {e:Int} (h:DC w g o neg v e) (hb:Below w.heap.size w w'):DC w' g o neg v e:=by
 obtain ⟨h1,h2,h3⟩:=h
 exact ⟨(hb.cell (World.block_lt_of_cell? _ _ h1)).trans h1,(hb.cell (World.block_lt_of_cell? _ _ h2)).trans h2,(hb.cell (World.block_lt_of_cell? _ _ h3)).trans h3⟩
theorem cell_set_ne {w:World} {g o o':Nat} {u:Value} (h:o≠o'):(w.setCell ⟨g,o,none⟩ u).cell? ⟨g,o',none⟩=w.cell? ⟨g,o',none⟩:=by
 rw [World.cell?_setCell_other]
 intro e
 injection e with _ e2 _
 exact h e2
theorem Ns.set3 {t:TypeId} {w:World} {ao:Option Addr} {cap:Nat} {L:List Nat} {g:Nat} {n:Bool} {v:Value} {k:Int} (h:Ns .u32 w ao cap L) (z:QL t w g n v k) (hv: ∀x,v≠ .int .u32 x) (u0 u1 u2:Value):
 Ns .u32 (((w.setCell ⟨g,0,none⟩ u0).setCell ⟨g,1,none⟩ u1).setCell ⟨g,2,none⟩ u2) ao cap L:=by
 have h1:=Ns.setCell_kind h ⟨g,0,none⟩ u0 (.bool n) z.1.1 (by intro x e;cases e)
 have h2:=Ns.setCell_kind h1 ⟨g,1,none⟩ u1 v ((cell_set_ne (by omega)).trans z.1.2.1) hv
 exact Ns.setCell_kind h2 ⟨g,2,none⟩ u2 (.int .i64 k) ((cell_set_ne (by omega)).trans ((cell_set_ne (by omega)).trans z.2.1)) (by intro x e;cases e)
def dSign (neg:Bool) (n:Nat):Int:=if n=0 then 0 else if neg=true then -1 else 1
end Go.Ulp
namespace Go.Proofs.YtehhegbkahnhgaaGreatDoor
open Go.RowKit Go.Ulp
set_option maxHeartbeats 1000000
set_option maxRecDepth 100000
theorem dyadSign_any (neg:Bool) (ao:Option Addr) (n cap:Nat) (e:Int) (w:World):
 Calls Tryz.prog 45 #[.agg #[.bool neg,.slice ao n cap,.int .i64 e]] w fun en w'=>en=.returned (.int .i64 (dSign neg n))∧Below w.heap.size w w':=by
 by_cases h0:n=0
 ·subst h0
  go_enter Tryz.func45,Tryz.ntmps45
  go_wp2_with fail
  go_ret
  exact ⟨ret_int (by simp [dSign]),below_alloc _ _⟩
 ·have H:=hid (show dSign neg n=if neg=true then -1 else 1 by unfold dSign;rw [if_neg h0])
  have hb:((n:Int)==0)=false:=beq_eq_false_iff_ne.2 (by omega)
  clear h0
  cases neg
  ·go_enter Tryz.func45,Tryz.ntmps45
   go_wp2_with fail
   go_ret
   exact ⟨ret_int (by rw [H.out];rfl),below_alloc _ _⟩
  ·go_enter Tryz.func45,Tryz.ntmps45
   go_wp2_with fail
   go_ret
   exact ⟨ret_int (by rw [H.out];rfl),below_alloc _ _⟩
end Go.Proofs.YtehhegbkahnhgaaGreatDoor
namespace Go.Ulp
open Go.RowKit
def RetX (w:World) (x:Int) (ch:Bool) (e:Ending) (w':World):Prop:=e=.returned (.tuple #[.int .u64 x,.bool ch])∧Below w.heap.size w w'
theorem ret2 {a b:Int} {c d:Bool} (h:a=b) (h':c=d):Ending.returned (.tuple #[.int .u64 a,.bool c])=.returned (.tuple #[.int .u64 b,.bool d]):=by rw [h,h']
theorem num_parts (neg:Bool) (m:Nat) (e mode:Int) (hz:m=0→e=0): ∃q:Nat,q=cutN neg m (numK m e-e) mode∧q≤9007199254740992∧ -1074≤numK m e∧(q<4503599627370496→numR neg m e mode=q∧numK m e≤971)∧(4503599627370496≤q→numR neg m e mode=(numK m e+1074)*4503599627370496+q):=by
 refine ⟨_,rfl,?_⟩
 by_cases hM:m=0
 ·have:=hz hM
  subst hM;subst this
  have e1:numR neg 0 0 mode=0:=by unfold numR;rw [if_pos rfl]
  have e2:numK 0 0= -53:=by unfold numK;rw [bl_zero];rfl
  have e3:cutN neg 0 (numK 0 0-0) mode=0:=by
   rw [e2];unfold cutN;rw [if_pos (by omega)];exact Nat.zero_mul _
  rw [e3,e1,e2]
  omega
 ·have hR:numR neg m e mode=(numK m e+1074)*4503599627370496+cutN neg m (numK m e-e) mode:=by unfold numR;rw [if_neg hM]
  obtain ⟨k,hk⟩: ∃k,k=numK m e:=⟨_,rfl⟩
  have hk2:=hk
  unfold numK at hk2
  have b1:=lt_bl m
  have b2:=pow_bl m (by omega)
  have b3:=(bl_pos m).2 (by omega)
  rw [hR,←hk]
  have key:cutN neg m (k-e) mode≤9007199254740992∧(k≠ -1074→4503599627370496≤cutN neg m (k-e) mode):=by
   by_cases hj:k-e≤0
   ·obtain ⟨d,hd⟩: ∃d:Nat,(d:Int)= -(k-e):=⟨(-(k-e)).toNat,by omega⟩
    have hd2:(-(k-e)).toNat=d:=by omega
    have hc:cutN neg m (k-e) mode=m*2^d:=by unfold cutN;rw [if_pos hj,hd2]
    rw [hc]
    refine ⟨?_,fun h=>?_⟩
    ·have:m*2^d≤2^bl m*2^d:=Nat.mul_le_mul_right _ (Nat.le_of_lt b1)
     rw [←Nat.pow_add] at this
     exact Nat.le_trans this (Nat.pow_le_pow_right (by omega) (show bl m+d≤53 by omega))
    ·have:2^(bl m-1)*2^d≤m*2^d:=Nat.mul_le_mul_right _ b2
     rw [←Nat.pow_add,show bl m-1+d=52 by omega] at this
     exact this
   ·obtain ⟨j,hj2⟩: ∃j:Nat,(j:Int)=k-e:=⟨(k-e).toNat,by omega⟩
    have hj3:(k-e).toNat=j:=by omega
    have h1:m/2^j<9007199254740992:=by
     rw [Nat.div_lt_iff_lt_mul (Nat.two_pow_pos j),show (9007199254740992:Nat)=2^53 by decide,←Nat.pow_add]
     exact Nat.lt_of_lt_of_le b1 (Nat.pow_le_pow_right (by omega) (by omega))
    have h2:k≠ -1074→4503599627370496≤m/2^j:=fun h=>by
     rw [Nat.le_div_iff_mul_le (Nat.two_pow_pos j),show (4503599627370496:Nat)=2^52 by decide,←Nat.pow_add,show 52+j=bl m-1 by omega]
     exact b2
    unfold cutN
    rw [if_neg hj,hj3]
    split<;>exact ⟨by omega,fun h=>by have:=h2 h;omega⟩
  omega
theorem bl_len (m n:Nat) (h:(limbs m).length≤n):bl m≤32*n:=by
 have h1:=(digs_len_le 4294967296 (by omega) m n).1 h
 rw [show (4294967296:Nat)=2^32 by decide,←Nat.pow_mul] at h1
 exact (bl_le m _).2 h1
theorem bits_or_zero (a:Int) (h0:0≤a) (h1:a<18446744073709551616):bits .or .u64 a 0=a:=by
 have:=or_join_u64 a 0 0 h0 h1 (by omega) (by omega) (by simp) (by simp)
 omega
theorem or_sgb (neg:Bool) (s a:Int) (hs:s=sgb neg) (h0:0≤a) (h1:a<9223372036854775808):bits .or .u64 a s=a+sgb neg:=by
 subst hs
 cases neg
 ·show bits .or .u64 a 0=a+0
  rw [bits_or_zero _ h0 (by omega)];omega
 ·exact or_sign a h0 h1
theorem fin_yes {neg:Bool} {mode R s:Int} (hs:s=sgb neg) (hR:9218868437227405312≤R) (ho:overA neg mode=true):bits .or .u64 9218868437227405312 s=capX neg mode R:=by
 rw [or_sgb neg s _ hs (by omega) (by omega)]
 unfold capX;rw [if_pos hR,if_pos ho]
theorem fin_no {neg:Bool} {mode R s:Int} (hs:s=sgb neg) (hR:9218868437227405312≤R) (ho:overA neg mode=false):bits .or .u64 9218868437227405311 s=capX neg mode R:=by
 rw [or_sgb neg s _ hs (by omega) (by omega)]
 unfold capX;rw [if_pos hR,ho];rfl
theorem fin_ch {R:Int} {ch:Bool} (hR:9218868437227405312≤R):true=capC R ch:=by unfold capC;rw [if_pos hR]
theorem fin_ch2 {R:Int} {ch:Bool} (hR:R<9218868437227405312):ch=capC R ch:=by unfold capC;rw [if_neg (by omega)]
theorem fin_small {neg:Bool} {mode R s n:Int} (hs:s=sgb neg) (h0:0≤n) (hR:R<9218868437227405312) (e:R=n):bits .or .u64 n s=capX neg mode R:=by
 rw [or_sgb neg s _ hs h0 (by omega)]
 unfold capX;rw [if_neg (by omega),e]
theorem fin_form {neg:Bool} {mode R s a n:Int} (hs:s=sgb neg) (a0:1≤a) (a1:a≤2046) (n0:4503599627370496≤n) (n1:n<9007199254740992) (e:R=(a-1)*4503599627370496+n):
 bits .or .u64 (bits .or .u64 (a*4503599627370496) (bits .and .u64 n 4503599627370495)) s=capX neg mode R:=by
 rw [and_frac n (by omega) (by omega),or_join52 (a*4503599627370496) (n%4503599627370496) (by omega) (by omega) (by omega) (by omega) (by omega) (by omega),or_sgb neg s _ hs (by omega) (by omega)]
 unfold capX;rw [if_neg (by omega)];omega
theorem val_or0 (x:Nat) (h:x<4294967296):Value.int .u64 (bits .or .u64 0 (x:Int))=Value.int .u64 ((0+4294967296^0*x:Nat):Int):=by
 rw [bits_comm_or 0 _ (by omega) (by omega) (by omega) (by omega),bits_or_zero _ (by omega) (by omega)]
 congr 1;omega
theorem val_or1 (V x:Nat) (hV:V<4294967296^1) (h:x<4294967296):Value.int .u64 (bits .or .u64 (V:Int) ((x:Int)*4294967296))=Value.int .u64 ((V+4294967296^1*x:Nat):Int):=by
 rw [or_join32' _ _ (by omega) (by omega) (by omega) (by omega)]
 congr 1;omega
end Go.Ulp
namespace Go.Proofs.YtehhegbkahnhgaaGreatDoor
open Go.RowKit Go.Ulp
set_option maxHeartbeats 1000000
set_option maxRecDepth 100000
theorem number_any (neg:Bool) (a0:Option Addr) (c0 m:Nat) (e mode:Int) (w:World) (h0:Ns .u32 w a0 c0 (limbs m)) (hm:(limbs m).length≤4294967296) (he: -100000000000≤e∧e≤100000000000) (hz:m=0→e=0):
 Calls Tryz.prog 68 #[.agg #[.bool neg,.slice a0 (limbs m).length c0,.int .i64 e],.int .i64 mode] w (RetX w (numX neg m e mode) (numC neg m e mode)):=by
 obtain ⟨q,hq,hqm,hk0,hR1,hR2⟩:=num_parts neg m e mode hz
 have H:=hid h0
 have hbl:bl m≤137438953472:=by
  have:=bl_len m 4294967296 hm
  omega
 obtain ⟨k,hk⟩: ∃k,k=numK m e:=⟨_,rfl⟩
 have hkd:max ((bl m:Int)+e-53) (-1074)=k:=by rw [hk];rfl
 have hkb: -100000000000≤k∧k≤250000000000:=by omega
 obtain ⟨R,hR⟩: ∃R,R=numR neg m e mode:=⟨_,rfl⟩
 obtain ⟨ch,hch⟩: ∃ch,ch=cutC m (numK m e-e):=⟨_,rfl⟩
 have CU:=hid (show ∀a c w,Ns .u32 w a c (limbs m)→Calls Tryz.prog 110 #[.bool neg,.slice a (limbs m).length c,.int .i64 (k-e),.int .i64 mode] w fun e w'=>RetN2 w q (.bool ch) e w' from fun a c w h=>by
  have:=cut_any neg a c m (k-e) mode w h (by omega) (by omega)
  rw [hq,hch,←hk];exact this)
 have LE:=hid (fun w h=>natLen_any a0 c0 m w h (by omega))
 have hres:numX neg m e mode=capX neg mode R∧numC neg m e mode=capC R ch:=by unfold numX numC;rw [hR,hch];exact ⟨rfl,rfl⟩
 rw [hres.1,hres.2]
 rw [←hk,←hR] at hR1 hR2
 rw [←hk] at hk0
 obtain ⟨b,hb⟩: ∃b,b=bl m:=⟨_,rfl⟩
 rw [←hb] at hkd hbl LE
 have HKD:=hid hkd
 have zA:QL 38 (w.alloc (.cells #[.bool neg,.slice a0 (limbs m).length c0,.int .i64 e] 38)) w.heap.size neg (.slice a0 (limbs m).length c0) e:=QL.made rfl
 have yb0:=below_alloc w (.cells #[.bool neg,.slice a0 (limbs m).length c0,.int .i64 e] 38)
 have hw1:IntKind.i64.wrap ((b:Int)+e)=(b:Int)+e:=IntWalk.i64_in _ (by omega)
 have hw2:IntKind.i64.wrap ((b:Int)+e-53)=(b:Int)+e-53:=IntWalk.i64_in _ (by omega)
 clear h0 hq hk hR hch hres hb hkd hm
 go_enter Tryz.func68,Tryz.ntmps68
 go_upto_region 1 with fail
 refine wp_region_grow 9 [14,15,16,17,18,19,20,21,6] [Fact.is (.pointer (some ⟨w.heap.size,1,none⟩)),Fact.is (.slice a0 (limbs m).length c0),Fact.is (.int .i64 (b:Int)),Fact.is (.pointer (some ⟨w.heap.size,2,none⟩)),Fact.is (.int .i64 e),Fact.is (.int .i64 ((b:Int)+e)),Fact.is (.int .i64 ((b:Int)+e-53)),Fact.is (.int .i64 (max ((b:Int)+e-53) (-1074))),Fact.is (.int .i64 (max ((b:Int)+e-53) (-1074)))] (by kernel_rfl) (by kernel_rfl) ⟨?o0,?o1,?o2,?o3,?o4,?o5,?o6,?o7,?o8,trivial⟩ ?after
 case o0=>(refine oQ rfl ?_;intro ρ w1 R hcon hfn hρ hb hp hR;have e2:ρ (.tmp 2)=.pointer (some ⟨w.heap.size,0,none⟩):=hρ.tmp 2 rfl;clear hρ hp;unfold OpRun;go_simp;exact hR _ _ (Below.refl _ _) rfl)
 case o1=>(refine oQ rfl ?_;intro ρ w1 R hcon hfn hρ hb hp hR;have e14:ρ (.tmp 14)=_:=hp 0 14 rfl rfl;obtain ⟨⟨j0,j1,-,-,-⟩,j2,-⟩:=zA.below hb;clear hρ hp;unfold OpRun;go_simp;exact hR _ _ (Below.refl _ _) rfl)
 case o2=>(refine oQ rfl ?_;intro ρ w1 R hcon hfn hρ hb hp hR;have e15:ρ (.tmp 15)=_:=hp 1 15 rfl rfl;clear hρ hp;unfold OpRun;go_simp;(refine (LE.out _ (H.out.below (below_trans yb0 hb))).mono ?_;rintro e wn ⟨rfl,rfl⟩;exact ⟨_,rfl,hR _ _ (Below.refl _ _) rfl⟩))
 case o3=>(refine oQ rfl ?_;intro ρ w1 R hcon hfn hρ hb hp hR;have e2:ρ (.tmp 2)=.pointer (some ⟨w.heap.size,0,none⟩):=hρ.tmp 2 rfl;clear hρ hp;unfold OpRun;go_simp;exact hR _ _ (Below.refl _ _) rfl)
 case o4=>(refine oQ rfl ?_;intro ρ w1 R hcon hfn hρ hb hp hR;have e17:ρ (.tmp 17)=_:=hp 3 17 rfl rfl;obtain ⟨⟨j0,j1,-,-,-⟩,j2,-⟩:=zA.below hb;clear hρ hp;unfold OpRun;go_simp;exact hR _ _ (Below.refl _ _) rfl)
 case o5=>(refine oQ rfl ?_;intro ρ w1 R hcon hfn hρ hb hp hR;have e16:ρ (.tmp 16)=_:=hp 2 16 rfl rfl;have e18:ρ (.tmp 18)=_:=hp 4 18 rfl rfl;clear hρ hp;unfold OpRun;go_simp;exact hR _ _ (Below.refl _ _) rfl)
 case o6=>(refine oQ rfl ?_;intro ρ w1 R hcon hfn hρ hb hp hR;have e19:ρ (.tmp 19)=_:=hp 5 19 rfl rfl;clear hρ hp;unfold OpRun;go_simp;exact hR _ _ (Below.refl _ _) rfl)
 case o7=>(refine oQ rfl ?_;intro ρ w1 R hcon hfn hρ hb hp hR;have e20:ρ (.tmp 20)=_:=hp 6 20 rfl rfl;clear hρ hp;unfold OpRun;go_simp;exact hR _ _ (Below.refl _ _) rfl)
 case o8=>(refine oQ rfl ?_;intro ρ w1 R hcon hfn hρ hb hp hR;have e21:ρ (.tmp 21)=_:=hp 7 21 rfl rfl;clear hρ hp;unfold OpRun;go_simp;exact hR _ _ (Below.refl _ _) rfl)
 case after=>
  intro u wn hb hf
  have e6:u 6=_:=hf 8 6 (by omega) rfl
  clear hf
  simp only [putAll,Act.put,List.setIfInBounds_toArray,List.set_cons_zero,List.set_cons_succ,List.drop_succ_cons,List.drop_zero,List.drop_nil]
  rw [e6]
  rw [HKD.out]
  have zB:=zA.below hb
  have yb1:=below_trans yb0 hb
  clear hw1 hw2 LE HKD zA yb0 hb
  obtain ⟨⟨j0,j1,-,-,-⟩,j2,-⟩:=id zB
  have hw1:IntKind.i64.wrap (k-e)=k-e:=IntWalk.i64_in _ (by omega)
  go_upto_region 4 with (go_at_call 110;(with_reducible refine (CU.out _ _ _ (H.out.below yb1)).mono ?_);rintro e w1 ⟨a1,rfl,hN1,hb1⟩)
  have zC:=zB.below hb1
  have yb2:=below_trans yb1 hb1
  have hql:(limbs q).length≤2:=(digs_len_le 4294967296 (by omega) q 2).2 (by omega)
  have lQ:=hid (limbs_lim q)
  have lV:=hid (lval_limbs q)
  obtain ⟨-,-,hcells⟩:=hN1
  clear j0 j1 j2 zB yb1 hb1 hw1 CU H
  go_wp2_with fail
  go_loop [9,10,11,37] (fun n _ _ i=> ∃(k:Nat),k≤(limbs q).length∧i=.int .i64 k∧n=.int .u64 ((lval ((limbs q).take k):Nat):Int)) (fun _ _ _ i=>(limbs q).length-(intOf i).toNat)
  case atStart=>exact ⟨0,by omega,rfl,rfl⟩
  case round=>
   obtain ⟨kk,hkk,rfl,rfl⟩:=hrel
   by_cases hlt:kk<(limbs q).length
   ·obtain ⟨b1,o1,rfl,hc⟩:=hcells (by omega)
    have hc1:=hc kk hlt
    obtain ⟨x,hx⟩: ∃x,x=(limbs q).getD kk 0:=⟨_,rfl⟩
    have hx1:x<4294967296:=by rw [hx];exact lQ.out.getD (by omega) kk
    unfold lb at hc1
    rw [←hx] at hc1
    have hv:=lval_take_succ (limbs q) kk hlt
    rw [←hx] at hv
    have hvt:=lval_take_lt (limbs q) kk lQ.out (by omega)
    obtain ⟨V,hV⟩: ∃V,V=lval ((limbs q).take kk):=⟨_,rfl⟩
    rw [←hV] at hv hvt ⊢
    have HV:=hid hv
    have hk2:kk=0∨kk=1:=by omega
    clear hv hx hV hc hcells
    rcases hk2 with rfl|rfl
    ·have hV0:V=0:=by simpa using hvt
     subst hV0
     rw [Nat.add_zero] at hc1
     clear hvt
     go_wp2_with fail
     go_round
     case rel=>exact ⟨1,by omega,by go_num,by rw [HV.out];exact val_or0 x hx1⟩
     case measure=>simp [intOf];omega
    ·clear hkk
     go_wp2_with fail
     go_round
     case rel=>exact ⟨2,by omega,by go_num,by rw [HV.out];exact val_or1 V x hvt hx1⟩
     case measure=>simp [intOf];omega
   ·have hke:kk=(limbs q).length:=by omega
    have hfin:lval ((limbs q).take kk)=q:=by rw [hke,List.take_of_length_le (Nat.le_refl _),lV.out]
    rw [hfin]
    obtain ⟨⟨j0,j1,-,-,-⟩,j2,-⟩:=id zC
    have HR1:=hid hR1
    have HR2:=hid hR2
    have hq0:0≤(q:Int):=by omega
    have hq1:(q:Int)≤9007199254740992:=by omega
    have QI:=hid (show (q:Int)=((q:Nat):Int) from rfl)
    clear hfin hke hcells lQ lV hql hz hR1 hR2 e6 hqm
    cases neg
    ·by_cases hA:(q:Int)=9007199254740992
     ·have hA2:((q:Int)==9007199254740992)=true:=beq_iff_eq.2 hA
      have HA:=hid hA
      have hRv:=HR2.out (by omega)
      by_cases hO:971<k+1
      ·have HR:=hid (show 9218868437227405312≤R by omega)
       clear hA hRv
       by_cases hm0:mode=0
       ·subst hm0
        go_wp2_with fail
        go_ret2
        exact ⟨ret2 (fin_yes (neg:=false) rfl HR.out (by decide)) (fin_ch HR.out),yb2⟩
       have m0:(mode==0)=false:=beq_eq_false_iff_ne.2 hm0
       by_cases hm4:mode=4
       ·subst hm4
        go_wp2_with fail
        go_ret2
        exact ⟨ret2 (fin_yes (neg:=false) rfl HR.out (by decide)) (fin_ch HR.out),yb2⟩
       have m4:(mode==4)=false:=beq_eq_false_iff_ne.2 hm4
       by_cases hm1:mode=1
       ·subst hm1
        go_wp2_with fail
        go_ret2
        exact ⟨ret2 (by first|exact fin_yes (neg:=false) rfl HR.out (by decide)|exact fin_no (neg:=false) rfl HR.out (by decide)) (fin_ch HR.out),yb2⟩
       have m1:(mode==1)=false:=beq_eq_false_iff_ne.2 hm1
       by_cases hm2:mode=2
       ·subst hm2
        go_wp2_with fail
        go_ret2
        exact ⟨ret2 (by first|exact fin_yes (neg:=false) rfl HR.out (by decide)|exact fin_no (neg:=false) rfl HR.out (by decide)) (fin_ch HR.out),yb2⟩
       have m2:(mode==2)=false:=beq_eq_false_iff_ne.2 hm2
       have HO:=hid (show overA false mode=false by simp [overA,hm0,hm1,hm2,hm4])
       clear hm0 hm1 hm2 hm4
       go_wp2_with fail
       go_ret2
       exact ⟨ret2 (fin_no (neg:=false) rfl HR.out HO.out) (fin_ch HR.out),yb2⟩
      ·have HR:=hid (show R<9218868437227405312 by omega)
       have HV:=hid hRv
       clear hA hRv
       go_wp2_with fail
       go_ret2
       exact ⟨ret2 (fin_form (neg:=false) rfl (by omega) (by omega) (by omega) (by omega) (by have:=HV.out;have:=HA.out;omega)) (fin_ch2 HR.out),yb2⟩
     ·have hA2:((q:Int)==9007199254740992)=false:=beq_eq_false_iff_ne.2 hA
      by_cases hO:971<k
      ·have HR:=hid (show 9218868437227405312≤R by
        by_cases hs:q<4503599627370496
        ·have:=(HR1.out hs).2;omega
        ·have:=HR2.out (by omega);omega)
       by_cases hm0:mode=0
       ·subst hm0
        go_wp2_with fail
        go_ret2
        exact ⟨ret2 (fin_yes (neg:=false) rfl HR.out (by decide)) (fin_ch HR.out),yb2⟩
       have m0:(mode==0)=false:=beq_eq_false_iff_ne.2 hm0
       by_cases hm4:mode=4
       ·subst hm4
        go_wp2_with fail
        go_ret2
        exact ⟨ret2 (fin_yes (neg:=false) rfl HR.out (by decide)) (fin_ch HR.out),yb2⟩
       have m4:(mode==4)=false:=beq_eq_false_iff_ne.2 hm4
       by_cases hm1:mode=1
       ·subst hm1
        go_wp2_with fail
        go_ret2
        exact ⟨ret2 (by first|exact fin_yes (neg:=false) rfl HR.out (by decide)|exact fin_no (neg:=false) rfl HR.out (by decide)) (fin_ch HR.out),yb2⟩
       have m1:(mode==1)=false:=beq_eq_false_iff_ne.2 hm1
       by_cases hm2:mode=2
       ·subst hm2
        go_wp2_with fail
        go_ret2
        exact ⟨ret2 (by first|exact fin_yes (neg:=false) rfl HR.out (by decide)|exact fin_no (neg:=false) rfl HR.out (by decide)) (fin_ch HR.out),yb2⟩
       have m2:(mode==2)=false:=beq_eq_false_iff_ne.2 hm2
       have HO:=hid (show overA false mode=false by simp [overA,hm0,hm1,hm2,hm4])
       clear hm0 hm1 hm2 hm4
       go_wp2_with fail
       go_ret2
       exact ⟨ret2 (fin_no (neg:=false) rfl HR.out HO.out) (fin_ch HR.out),yb2⟩
      ·by_cases hs:(q:Int)<4503599627370496
       ·have HV:=hid (HR1.out (by omega)).1
        go_wp2_with fail
        go_ret2
        exact ⟨ret2 (fin_small (neg:=false) rfl (by omega) (by rw [HV.out];omega) HV.out) (fin_ch2 (by rw [HV.out];omega)),yb2⟩
       ·have HV:=hid (HR2.out (by omega))
        have HR:=hid (show R<9218868437227405312 by have:=HV.out;omega)
        go_wp2_with fail
        go_ret2
        exact ⟨ret2 (fin_form (neg:=false) rfl (by omega) (by omega) (by omega) (by omega) (by have:=HV.out;omega)) (fin_ch2 HR.out),yb2⟩
    ·by_cases hA:(q:Int)=9007199254740992
     ·have hA2:((q:Int)==9007199254740992)=true:=beq_iff_eq.2 hA
      have HA:=hid hA
      have hRv:=HR2.out (by omega)
      by_cases hO:971<k+1
      ·have HR:=hid (show 9218868437227405312≤R by omega)
       clear hA hRv
       by_cases hm0:mode=0
       ·subst hm0
        go_wp2_with fail
        go_ret2
        exact ⟨ret2 (fin_yes (neg:=true) rfl HR.out (by decide)) (fin_ch HR.out),yb2⟩
       have m0:(mode==0)=false:=beq_eq_false_iff_ne.2 hm0
       by_cases hm4:mode=4
       ·subst hm4
        go_wp2_with fail
        go_ret2
        exact ⟨ret2 (fin_yes (neg:=true) rfl HR.out (by decide)) (fin_ch HR.out),yb2⟩
       have m4:(mode==4)=false:=beq_eq_false_iff_ne.2 hm4
       by_cases hm1:mode=1
       ·subst hm1
        go_wp2_with fail
        go_ret2
        exact ⟨ret2 (by first|exact fin_yes (neg:=true) rfl HR.out (by decide)|exact fin_no (neg:=true) rfl HR.out (by decide)) (fin_ch HR.out),yb2⟩
       have m1:(mode==1)=false:=beq_eq_false_iff_ne.2 hm1
       by_cases hm2:mode=2
       ·subst hm2
        go_wp2_with fail
        go_ret2
        exact ⟨ret2 (by first|exact fin_yes (neg:=true) rfl HR.out (by decide)|exact fin_no (neg:=true) rfl HR.out (by decide)) (fin_ch HR.out),yb2⟩
       have m2:(mode==2)=false:=beq_eq_false_iff_ne.2 hm2
       have HO:=hid (show overA true mode=false by simp [overA,hm0,hm1,hm2,hm4])
       clear hm0 hm1 hm2 hm4
       go_wp2_with fail
       go_ret2
       exact ⟨ret2 (fin_no (neg:=true) rfl HR.out HO.out) (fin_ch HR.out),yb2⟩
      ·have HR:=hid (show R<9218868437227405312 by omega)
       have HV:=hid hRv
       clear hA hRv
       go_wp2_with fail
       go_ret2
       exact ⟨ret2 (fin_form (neg:=true) rfl (by omega) (by omega) (by omega) (by omega) (by have:=HV.out;have:=HA.out;omega)) (fin_ch2 HR.out),yb2⟩
     ·have hA2:((q:Int)==9007199254740992)=false:=beq_eq_false_iff_ne.2 hA
      by_cases hO:971<k
      ·have HR:=hid (show 9218868437227405312≤R by
        by_cases hs:q<4503599627370496
        ·have:=(HR1.out hs).2;omega
        ·have:=HR2.out (by omega);omega)
       by_cases hm0:mode=0
       ·subst hm0
        go_wp2_with fail
        go_ret2
        exact ⟨ret2 (fin_yes (neg:=true) rfl HR.out (by decide)) (fin_ch HR.out),yb2⟩
       have m0:(mode==0)=false:=beq_eq_false_iff_ne.2 hm0
       by_cases hm4:mode=4
       ·subst hm4
        go_wp2_with fail
        go_ret2
        exact ⟨ret2 (fin_yes (neg:=true) rfl HR.out (by decide)) (fin_ch HR.out),yb2⟩
       have m4:(mode==4)=false:=beq_eq_false_iff_ne.2 hm4
       by_cases hm1:mode=1
       ·subst hm1
        go_wp2_with fail
        go_ret2
        exact ⟨ret2 (by first|exact fin_yes (neg:=true) rfl HR.out (by decide)|exact fin_no (neg:=true) rfl HR.out (by decide)) (fin_ch HR.out),yb2⟩
       have m1:(mode==1)=false:=beq_eq_false_iff_ne.2 hm1
       by_cases hm2:mode=2
       ·subst hm2
        go_wp2_with fail
        go_ret2
        exact ⟨ret2 (by first|exact fin_yes (neg:=true) rfl HR.out (by decide)|exact fin_no (neg:=true) rfl HR.out (by decide)) (fin_ch HR.out),yb2⟩
       have m2:(mode==2)=false:=beq_eq_false_iff_ne.2 hm2
       have HO:=hid (show overA true mode=false by simp [overA,hm0,hm1,hm2,hm4])
       clear hm0 hm1 hm2 hm4
       go_wp2_with fail
       go_ret2
       exact ⟨ret2 (fin_no (neg:=true) rfl HR.out HO.out) (fin_ch HR.out),yb2⟩
      ·by_cases hs:(q:Int)<4503599627370496
       ·have HV:=hid (HR1.out (by omega)).1
        go_wp2_with fail
        go_ret2
        exact ⟨ret2 (fin_small (neg:=true) rfl (by omega) (by rw [HV.out];omega) HV.out) (fin_ch2 (by rw [HV.out];omega)),yb2⟩
       ·have HV:=hid (HR2.out (by omega))
        have HR:=hid (show R<9218868437227405312 by have:=HV.out;omega)
        go_wp2_with fail
        go_ret2
        exact ⟨ret2 (fin_form (neg:=true) rfl (by omega) (by omega) (by omega) (by omega) (by have:=HV.out;omega)) (fin_ch2 HR.out),yb2⟩
end Go.Proofs.YtehhegbkahnhgaaGreatDoor
namespace Go.Ulp
open Go.RowKit
def knownB (mode:Int):Bool:=decide (0≤mode∧mode≤4)
def RetDy (w:World) (neg:Bool) (m:Nat) (x:Int) (e:Ending) (w':World):Prop:=
 ∃am cm,e=.returned (.agg #[.bool neg,.slice am (limbs m).length cm,.int .i64 x])∧Ns .u32 w' am cm (limbs m)∧Below w.heap.size w w'
end Go.Ulp
namespace Go.Proofs.YtehhegbkahnhgaaGreatDoor
open Go.RowKit Go.Ulp
set_option maxHeartbeats 1000000
set_option maxRecDepth 100000
theorem known_any (mode:Int) (w:World):Calls Tryz.prog 17 #[.int .i64 mode] w fun e w'=>e=.returned (.bool (knownB mode))∧w=w':=by
 by_cases h:0≤mode
 ·have H:=hid (show decide (mode≤4)=knownB mode by unfold knownB;rw [decide_eq_decide];omega)
  go_enter Tryz.func17,Tryz.ntmps17
  go_wp2_with fail
  go_ret
  exact ⟨ret_bool H.out,rfl⟩
 ·have H:=hid (show false=knownB mode by unfold knownB;rw [eq_comm,decide_eq_false_iff_not];omega)
  go_enter Tryz.func17,Tryz.ntmps17
  go_wp2_with fail
  go_ret
  exact ⟨ret_bool H.out,rfl⟩
theorem beside_any (neg:Bool) (m:Nat) (am:Option Addr) (cm:Nat) (e side:Int) (w:World) (h0:Ns .u32 w am cm (limbs m)) (hm:(limbs m).length≤10000) (he: -100000≤e∧e≤100000):
 Calls Tryz.prog 23 #[.agg #[.bool neg,.slice am (limbs m).length cm,.int .i64 e],.int .i64 side] w (RetDy w (besNeg neg m side) (besM neg m side) (besE m e side)):=by
 have H:=hid h0
 have zA0:QL 38 ((w.alloc (.cells #[.bool neg,.slice am (limbs m).length cm,.int .i64 e] 38)).alloc (.cells #[.bool false,.slice none 0 0,.int .i64 0] 38)) w.heap.size neg (.slice am (limbs m).length cm) e:=(QL.made rfl).alloc _
 have zR0:QL 38 ((w.alloc (.cells #[.bool neg,.slice am (limbs m).length cm,.int .i64 e] 38)).alloc (.cells #[.bool false,.slice none 0 0,.int .i64 0] 38)) (w.heap.size+1) false (.slice none 0 0) 0:=QL.made (by first|omega|(simp;done)|(simp;omega))
 have yb0:Below w.heap.size w ((w.alloc (.cells #[.bool neg,.slice am (limbs m).length cm,.int .i64 e] 38)).alloc (.cells #[.bool false,.slice none 0 0,.int .i64 0] 38)):=by (repeat' first|(with_reducible first|assumption|apply bR|apply bA|apply bN|apply bD|apply bL|apply bS)|refine bT ?_ (by assumption)|go_size)
 have hcap:=h0.1
 have hcap2:=h0.2.1
 unfold maxLen at hcap2
 clear h0
 by_cases hs:side=0
 ·subst hs
  have E1:besNeg neg m 0=neg:=by unfold besNeg;rw [if_pos rfl]
  have E2:besM neg m 0=m:=by unfold besM;rw [if_pos rfl]
  have E3:besE m e 0=e:=by unfold besE;rw [if_pos rfl]
  rw [E1,E2,E3]
  clear E1 E2 E3
  go_enter Tryz.func23,Tryz.ntmps23
  go_wp2_with fail
  refine bodyPost_ret (by simp [results,Tryz.results23,go_sem];try rfl) rfl ?_
  exact ⟨_,_,rfl,H.out.below (below_trans (below_alloc _ _) (below_alloc _ _)),below_trans (below_alloc _ _) (below_alloc _ _)⟩
 have hsb:(side==0)=false:=beq_eq_false_iff_ne.2 hs
 have OF:=hid (show ∀w,Calls Tryz.prog 66 #[.int .u64 1] w fun e w'=>RetN w 1 e w' from fun w=>natOf_any 1 (by omega) w)
 by_cases hz:m=0
 ·subst hz
  have E1:=hid (show besNeg neg 0 side=decide (side<0) by unfold besNeg;rw [if_neg hs,if_pos rfl])
  have E2:=hid (show besM neg 0 side=1 by unfold besM;rw [if_neg hs,if_pos rfl])
  have E3:=hid (show besE 0 e side= -2000 by unfold besE;rw [if_neg hs,if_pos rfl])
  rw [E1.out,E2.out,E3.out]
  rw [limbs_zero] at zA0 zR0 yb0 ⊢
  clear hs
  go_enter Tryz.func23,Tryz.ntmps23
  go_upto_region 4 with fail
  go_wp2_with (go_at_call 66;(with_reducible refine (OF.out _).mono ?_);rintro en w1 ⟨a1,rfl,hN1,hb1⟩;have zR:=zR0.below hb1;have yb:=below_trans yb0 hb1;have k0:=zR.1.1;have k1:=zR.1.2.1;have k2:=zR.2.1;have f0:=zR.1.2.2.1;have f1:=zR.1.2.2.2.1;have f2:=zR.2.2)
  refine bodyPost_ret (by simp [results,Tryz.results23,go_sem,k0,k1,k2];try rfl) rfl ?_
  exact ⟨_,_,rfl,hN1.set3 zR (by intro x h;cases h) _ _ _,((yb.setCell (by first|omega|(simp;done)|(simp;omega)) _).setCell (by first|omega|(simp;done)|(simp;omega)) _).setCell (by first|omega|(simp;done)|(simp;omega)) _⟩
 ·have hlen:(limbs m).length≠0:=fun h=>hz ((limbs_nil m).1 (List.length_eq_zero_iff.1 h))
  have hlb:(((limbs m).length:Int)==0)=false:=beq_eq_false_iff_ne.2 (by omega)
  have E1:=hid (show besNeg neg m side=neg by unfold besNeg;rw [if_neg hs,if_neg hz])
  have E2:=hid (show besM neg m side=if (decide (0<side) !=neg)=true then m*2^64+1 else m*2^64-1 by unfold besM;rw [if_neg hs,if_neg hz])
  have E3:=hid (show besE m e side=e-64 by unfold besE;rw [if_neg hs,if_neg hz])
  obtain ⟨M,hM⟩: ∃M,M=m*2^64:=⟨_,rfl⟩
  have hM1:1≤M:=by rw [hM];exact Nat.mul_pos (by omega) (Nat.two_pow_pos 64)
  have hMl:(limbs M).length≤20000:=by
   rw [hM]
   have:=limbs_len_shl m 64 2 (by omega)
   omega
  have LF:=hid (show ∀a c w,Ns .u32 w a c (limbs m)→Calls Tryz.prog 69 #[.slice a (limbs m).length c,.int .i64 64] w fun e w'=>RetN w M e w' from fun a c w h=>by rw [hM];exact leftN_any a c m 64 w h (by omega) (by omega))
  have hone:(limbs 1).length≤4294967296:=by
   have:(limbs 1).length≤1:=(digs_len_le 4294967296 (by omega) 1 1).2 (by omega)
   omega
  have PL:=hid (show ∀a b c d w,Ns .u32 w a c (limbs M)→Ns .u32 w b d (limbs 1)→Calls Tryz.prog 70 #[.slice a (limbs M).length c,.slice b (limbs 1).length d] w fun e w'=>RetN w (M+1) e w' from fun a b c d w k0 k1=>plus_any a b c d M 1 w k0 k1 (by omega) hone)
  have MI:=hid (show ∀a b c d w,Ns .u32 w a c (limbs M)→Ns .u32 w b d (limbs 1)→Calls Tryz.prog 71 #[.slice a (limbs M).length c,.slice b (limbs 1).length d] w fun e w'=>RetN w (M-1) e w' from fun a b c d w k0 k1=>minus_any a b c d M 1 w k0 k1 (by omega) hM1)
  rw [←hM] at E2
  rw [E1.out,E2.out,E3.out]
  obtain ⟨q,hq⟩: ∃q,q=(decide (0<side) !=neg):=⟨_,rfl⟩
  have HQ:=hid hq
  rw [←hq]
  clear hs hz hM hM1 hMl hlen hone hq E1 E2 E3
  go_enter Tryz.func23,Tryz.ntmps23
  go_upto_region 6 with (go_at_call 69;(with_reducible refine (LF.out _ _ _ (H.out.below yb0)).mono ?_);rintro en w1 ⟨a1,rfl,hN1,hb1⟩)
  have zA:=zA0.below hb1
  have zR:=zR0.below hb1
  have yb:=below_trans yb0 hb1
  obtain ⟨⟨j0,j1,-,-,-⟩,j2,-⟩:=id zA
  clear zA0 zR0 yb0 hb1
  by_cases hp:0<side
  ·have hd:decide (0<side)=true:=decide_eq_true hp
   cases neg
   ·obtain rfl:q=true:=by rw [HQ.out,hd];rfl
    clear HQ
    go_upto_region 9 with (first
     |(go_at_call 66;(with_reducible refine (OF.out _).mono ?_);rintro en w8 ⟨a8,rfl,hN8,hb8⟩)
     |(go_at_call 70;(with_reducible refine (PL.out _ _ _ _ _ (hN1.below hb8) hN8).mono ?_);rintro en w9 ⟨a9,rfl,hN9,hb9⟩))
    have zR9:=(zR.below hb8).below hb9
    have yb9:=below_trans (below_trans yb hb8) hb9
    have zA9:=(zA.below hb8).below hb9
    clear j0 j1 j2
    obtain ⟨⟨j0,j1,-,-,-⟩,j2,-⟩:=id zA9
    obtain ⟨⟨k0,k1,f0,f1,hs2⟩,k2,f2⟩:=id zR9
    go_wp2_with fail
    refine bodyPost_ret (by simp [results,Tryz.results23,go_sem,k0,k1,k2];try rfl) rfl ?_
    exact ⟨_,_,rfl,hN9.set3 zR9 (by intro x h;cases h) _ _ _,((yb9.setCell (by first|omega|(simp;done)|(simp;omega)) _).setCell (by first|omega|(simp;done)|(simp;omega)) _).setCell (by first|omega|(simp;done)|(simp;omega)) _⟩
   ·obtain rfl:q=false:=by rw [HQ.out,hd];rfl
    clear HQ
    go_upto_region 9 with (first
     |(go_at_call 66;(with_reducible refine (OF.out _).mono ?_);rintro en w8 ⟨a8,rfl,hN8,hb8⟩)
     |(go_at_call 71;(with_reducible refine (MI.out _ _ _ _ _ (hN1.below hb8) hN8).mono ?_);rintro en w9 ⟨a9,rfl,hN9,hb9⟩))
    have zR9:=(zR.below hb8).below hb9
    have yb9:=below_trans (below_trans yb hb8) hb9
    have zA9:=(zA.below hb8).below hb9
    clear j0 j1 j2
    obtain ⟨⟨j0,j1,-,-,-⟩,j2,-⟩:=id zA9
    obtain ⟨⟨k0,k1,f0,f1,hs2⟩,k2,f2⟩:=id zR9
    go_wp2_with fail
    refine bodyPost_ret (by simp [results,Tryz.results23,go_sem,k0,k1,k2];try rfl) rfl ?_
    exact ⟨_,_,rfl,hN9.set3 zR9 (by intro x h;cases h) _ _ _,((yb9.setCell (by first|omega|(simp;done)|(simp;omega)) _).setCell (by first|omega|(simp;done)|(simp;omega)) _).setCell (by first|omega|(simp;done)|(simp;omega)) _⟩
  ·have hd:decide (0<side)=false:=decide_eq_false hp
   cases neg
   ·obtain rfl:q=false:=by rw [HQ.out,hd];rfl
    clear HQ
    go_upto_region 9 with (first
     |(go_at_call 66;(with_reducible refine (OF.out _).mono ?_);rintro en w8 ⟨a8,rfl,hN8,hb8⟩)
     |(go_at_call 71;(with_reducible refine (MI.out _ _ _ _ _ (hN1.below hb8) hN8).mono ?_);rintro en w9 ⟨a9,rfl,hN9,hb9⟩))
    have zR9:=(zR.below hb8).below hb9
    have yb9:=below_trans (below_trans yb hb8) hb9
    have zA9:=(zA.below hb8).below hb9
    clear j0 j1 j2
    obtain ⟨⟨j0,j1,-,-,-⟩,j2,-⟩:=id zA9
    obtain ⟨⟨k0,k1,f0,f1,hs2⟩,k2,f2⟩:=id zR9
    go_wp2_with fail
    refine bodyPost_ret (by simp [results,Tryz.results23,go_sem,k0,k1,k2];try rfl) rfl ?_
    exact ⟨_,_,rfl,hN9.set3 zR9 (by intro x h;cases h) _ _ _,((yb9.setCell (by first|omega|(simp;done)|(simp;omega)) _).setCell (by first|omega|(simp;done)|(simp;omega)) _).setCell (by first|omega|(simp;done)|(simp;omega)) _⟩
   ·obtain rfl:q=true:=by rw [HQ.out,hd];rfl
    clear HQ
    go_upto_region 9 with (first
     |(go_at_call 66;(with_reducible refine (OF.out _).mono ?_);rintro en w8 ⟨a8,rfl,hN8,hb8⟩)
     |(go_at_call 70;(with_reducible refine (PL.out _ _ _ _ _ (hN1.below hb8) hN8).mono ?_);rintro en w9 ⟨a9,rfl,hN9,hb9⟩))
    have zR9:=(zR.below hb8).below hb9
    have yb9:=below_trans (below_trans yb hb8) hb9
    have zA9:=(zA.below hb8).below hb9
    clear j0 j1 j2
    obtain ⟨⟨j0,j1,-,-,-⟩,j2,-⟩:=id zA9
    obtain ⟨⟨k0,k1,f0,f1,hs2⟩,k2,f2⟩:=id zR9
    go_wp2_with fail
    refine bodyPost_ret (by simp [results,Tryz.results23,go_sem,k0,k1,k2];try rfl) rfl ?_
    exact ⟨_,_,rfl,hN9.set3 zR9 (by intro x h;cases h) _ _ _,((yb9.setCell (by first|omega|(simp;done)|(simp;omega)) _).setCell (by first|omega|(simp;done)|(simp;omega)) _).setCell (by first|omega|(simp;done)|(simp;omega)) _⟩
end Go.Proofs.YtehhegbkahnhgaaGreatDoor
namespace Go.Ulp
open Go.RowKit
def RetX3 (w:World) (x:Int) (ch:Bool) (er:Int) (e:Ending) (w':World):Prop:=e=.returned (.tuple #[.int .u64 x,.bool ch,.int .i64 er])∧Below w.heap.size w w'
def Fact.dy (neg:Bool) (m:Nat) (x:Int):Fact:=⟨fun v w=> ∃am cm,v=.agg #[.bool neg,.slice am (limbs m).length cm,.int .i64 x]∧Ns .u32 w am cm (limbs m),fun _ _ _ h hb=>by
 obtain ⟨am,cm,h1,h2⟩:=h
 exact ⟨am,cm,h1,h2.below hb⟩⟩
end Go.Ulp
namespace Go.Proofs.YtehhegbkahnhgaaGreatDoor
open Go.RowKit Go.Ulp
set_option maxHeartbeats 1000000
set_option maxRecDepth 100000
end Go.Proofs.YtehhegbkahnhgaaGreatDoor
