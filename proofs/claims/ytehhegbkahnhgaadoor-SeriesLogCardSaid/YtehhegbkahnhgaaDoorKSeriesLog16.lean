/- SeriesLog: what the proof leans on, part 16 (Rn1 Sh Qm Rm Zv Tx3 RegM Tx5). -/
import Derived.Deep.DeepCutAuto
import Derived.Deep.CutBlock
import Derived.Test.YtehhegbkahnhgaaDoorKSeriesLog5
import Derived.Test.YtehhegbkahnhgaaDoorKSeriesLog9
import Derived.Test.YtehhegbkahnhgaaDoorKSeriesLog10
import Derived.Test.YtehhegbkahnhgaaDoorKSeriesLog11
import Derived.Test.YtehhegbkahnhgaaDoorKSeriesLog13
import Derived.Test.YtehhegbkahnhgaaDoorKSeriesLog14
import Derived.Test.YtehhegbkahnhgaaDoorKSeriesLog15
set_option linter.unusedVariables false
set_option linter.unusedSimpArgs false
namespace Go.Ulp
def IsLow (c:Int→Int) (l:Int):Prop:= -9218868437227405312≤l∧l<9218868437227405312∧(l= -9218868437227405312∨c l≤0)∧(l+1=9218868437227405312∨0<c (l+1))
def upR (neg:Bool) (mode near high:Int):Bool:=
 if near=0∧mode=0 then decide (high%2=0) else if near=0∧mode=4 then !neg else decide (mode=1∨(mode=3∧neg=true)∨((mode=0∨mode=4)∧0<near))
def tellR (neg:Bool) (r:Int):Int:=if r=0∧neg=true then 9223372036854775808 else ranked r
def ansR (c cm:Int→Int) (cz mode l:Int):Int×Bool:=
 if -9218868437227405312<l∧c l=0 then (ranked l,false) else if upR (decide (cz<0)) mode (cm l) (l+1)=true then (tellR (decide (cz<0)) (l+1),true) else (tellR (decide (cz<0)) l,true)
def rT (s:Nat) (r:Int):Int:=rvs r*pw s
def cR (s:Nat) (V r:Int):Int:=cmpI (rT s r) V
def cM (s:Nat) (V r:Int):Int:=cmpI (2*V) (rT s r+rT s (r+1))
def Rnd (s:Nat) (V mode x:Int) (ch:Bool):Prop:= ∃l,IsLow (cR s V) l∧(x,ch)=ansR (cR s V) (cM s V) (cmpI V 0) mode l
theorem cmpI_le (a b:Int):cmpI a b≤0↔a≤b:=by unfold cmpI;split<;>(try split)<;>omega
theorem cmpI_gt (a b:Int):0<cmpI a b↔b<a:=by unfold cmpI;split<;>(try split)<;>omega
theorem rT_mono (s:Nat) {a b:Int} (h:a<b):rT s a<rT s b:=(pw_lt s).2 (rvs_mono h)
theorem rT_le (s:Nat) {a b:Int} (h:a≤b):rT s a≤rT s b:=by
 rcases Int.lt_or_eq_of_le h with h|h
 ·exact Int.le_of_lt (rT_mono s h)
 ·rw [h];exact Int.le_refl _
theorem low_uniq {s:Nat} {V l m:Int} (h:IsLow (cR s V) l) (k:IsLow (cR s V) m):l=m:=by
 have key: ∀ {l m:Int},IsLow (cR s V) l→IsLow (cR s V) m→ ¬l<m:=by
  intro l m h k hlt
  obtain ⟨h0,h1,h2,h3⟩:=h
  obtain ⟨k0,k1,k2,k3⟩:=k
  have a1:0<cR s V (l+1):=by rcases h3 with h3|h3
                             ·omega
                             ·exact h3
  have a2:cR s V m≤0:=by rcases k2 with k2|k2
                         ·omega
                         ·exact k2
  have b1:=(cmpI_gt _ _).1 a1
  have b2:=(cmpI_le _ _).1 a2
  have b3:=rT_le s (show l+1≤m by omega)
  omega
 have:=key h k
 have:=key k h
 omega
theorem Rnd.uniq {s:Nat} {V mode x y:Int} {ch dh:Bool} (h:Rnd s V mode x ch) (k:Rnd s V mode y dh):x=y∧ch=dh:=by
 obtain ⟨l,h1,h2⟩:=h
 obtain ⟨m,k1,k2⟩:=k
 have e:=low_uniq h1 k1
 subst e
 rw [←k2] at h2
 exact Prod.mk.inj h2
theorem Rnd.same {s t:Nat} {V U mode x:Int} {ch:Bool} (h:Rnd s V mode x ch) (h1: ∀r,cR s V r=cR t U r) (h2: ∀r,cM s V r=cM t U r) (h3:cmpI V 0=cmpI U 0):Rnd t U mode x ch:=by
 obtain ⟨l,a,b⟩:=h
 have e1:cR s V=cR t U:=funext h1
 have e2:cM s V=cM t U:=funext h2
 rw [e1] at a
 rw [e1,e2,h3] at b
 exact ⟨l,a,b⟩
def upN (neg odd:Bool) (half mode:Int):Bool:=if mode=1 then !neg else if mode=2 then neg else if mode=3 then false else if mode=4 then decide (0≤half) else decide (0<half∨(half=0∧odd=true))
theorem up_pos (near mode R:Int) (h0:0≤mode) (h1:mode≤4):upR false mode near (R+1)=upN false (decide (R%2=1)) near mode:=by
 have:mode=0∨mode=1∨mode=2∨mode=3∨mode=4:=by omega
 unfold upR upN
 rcases this with rfl|rfl|rfl|rfl|rfl
 ·by_cases h:near=0
  ·subst h;simp;omega
  ·simp [h]
 ·simp
 ·simp
 ·simp
 ·by_cases h:near=0
  ·subst h;simp
  ·simp [h];omega
theorem up_neg (near mode R:Int) (h0:0≤mode) (h1:mode≤4):upR true mode (-near) (-R)=!upN true (decide (R%2=1)) near mode:=by
 have:mode=0∨mode=1∨mode=2∨mode=3∨mode=4:=by omega
 rw [Bool.eq_iff_iff,Bool.not_eq_true']
 unfold upR upN
 rcases this with rfl|rfl|rfl|rfl|rfl
 ·by_cases h:near=0
  ·subst h
   rcases Int.emod_two_eq R with e|e
   ·have: -R%2=0:=by omega
    simp [e,this]
   ·have: ¬ -R%2=0:=by omega
    simp [e,this]
  ·have: ¬ -near=0:=by omega
   simp [h,this];omega
 ·simp
 ·simp
 ·simp
 ·by_cases h:near=0
  ·subst h;simp
  ·have: ¬ -near=0:=by omega
   simp [h,this]
def cutN (neg:Bool) (M:Nat) (j mode:Int):Nat:=
 if j≤0 then M*2^(-j).toNat else if M%2^j.toNat≠0∧upN neg (decide (((M/2^j.toNat:Nat):Int)%2=1)) (cmpI ((M%2^j.toNat:Nat):Int) ((2^(j.toNat-1):Nat):Int)) mode=true then M/2^j.toNat+1 else M/2^j.toNat
def cutC (M:Nat) (j:Int):Bool:=if j≤0 then false else decide (M%2^j.toNat≠0)
end Go.Ulp
namespace Go.Proofs.YtehhegbkahnhgaaDoor
open Go.RowKit Go.Ulp
set_option maxHeartbeats 1000000
set_option maxRecDepth 100000
theorem up_any (neg odd:Bool) (half mode:Int) (w:World):
 Calls Tryd.prog 96 #[.bool neg,.bool odd,.int .i64 half,.int .i64 mode] w fun e w'=>e=.returned (.bool (upN neg odd half mode))∧w=w':=by
 by_cases h1:mode=1
 ·subst h1
  go_enter Tryd.func96,Tryd.ntmps96
  go_wp2_with fail
  go_ret
  exact ⟨ret_bool (by simp [upN]),rfl⟩
 by_cases h2:mode=2
 ·subst h2
  go_enter Tryd.func96,Tryd.ntmps96
  go_wp2_with fail
  go_ret
  exact ⟨ret_bool (by simp [upN]),rfl⟩
 by_cases h3:mode=3
 ·subst h3
  go_enter Tryd.func96,Tryd.ntmps96
  go_wp2_with fail
  go_ret
  exact ⟨ret_bool (by simp [upN]),rfl⟩
 by_cases h4:mode=4
 ·subst h4
  go_enter Tryd.func96,Tryd.ntmps96
  go_wp2_with fail
  go_ret
  exact ⟨ret_bool (by simp [upN]),rfl⟩
 have b1:(mode==1)=false:=beq_eq_false_iff_ne.2 h1
 have b2:(mode==2)=false:=beq_eq_false_iff_ne.2 h2
 have b3:(mode==3)=false:=beq_eq_false_iff_ne.2 h3
 have b4:(mode==4)=false:=beq_eq_false_iff_ne.2 h4
 have hu:upN neg odd half mode=decide (0<half∨(half=0∧odd=true)):=by unfold upN;rw [if_neg h1,if_neg h2,if_neg h3,if_neg h4]
 rw [hu]
 clear hu h1 h2 h3 h4
 rcases Int.lt_trichotomy half 0 with h|h|h
 ·have c1:decide (0<half)=false:=decide_eq_false (by omega)
  have c2:(half==0)=false:=beq_eq_false_iff_ne.2 (by omega)
  have hr:decide (0<half∨(half=0∧odd=true))=false:=decide_eq_false (fun h2=>by omega)
  rw [hr]
  clear hr
  go_enter Tryd.func96,Tryd.ntmps96
  go_wp2_with fail
  go_ret
  exact ⟨rfl,rfl⟩
 ·subst h
  have hr:decide ((0:Int)<0∨((0:Int)=0∧odd=true))=odd:=by cases odd<;>rfl
  rw [hr]
  clear hr
  go_enter Tryd.func96,Tryd.ntmps96
  go_wp2_with fail
  go_ret
  exact ⟨rfl,rfl⟩
 ·have c1:decide (0<half)=true:=decide_eq_true h
  have hr:decide (0<half∨(half=0∧odd=true))=true:=decide_eq_true (.inl h)
  rw [hr]
  clear hr
  go_enter Tryd.func96,Tryd.ntmps96
  go_wp2_with fail
  go_ret
  exact ⟨rfl,rfl⟩
theorem natLen_any (a0:Option Addr) (c0 m:Nat) (w:World) (h0:Ns .u32 w a0 c0 (limbs m)) (hm:(limbs m).length≤4294967296):
 Calls Tryd.prog 71 #[.slice a0 (limbs m).length c0] w fun e w'=>e=.returned (.int .i64 (bl m:Int))∧w=w':=by
 by_cases hz:m=0
 ·subst hz
  rw [limbs_zero]
  go_enter Tryd.func71,Tryd.ntmps71
  go_wp2_with fail
  go_ret
  exact ⟨rfl,rfl⟩
 have hpos:0<(limbs m).length:=(digs_len_pos 4294967296 (by omega) m).2 (by omega)
 obtain ⟨s0,hs⟩: ∃s0,(limbs m).length=s0+1:=⟨(limbs m).length-1,by omega⟩
 obtain ⟨top,htop⟩: ∃top,top=(limbs m).getD s0 0:=⟨_,rfl⟩
 have lN:=limbs_lim m
 have btop:top<4294967296:=by rw [htop];exact lN.getD (by omega) _
 have ptop:0<top:=by
  have:=(trim_iff (limbs m)).1 (limbs_trim m)
  rw [hs] at this
  rcases this with h|h
  ·omega
  ·rw [htop];exact Nat.pos_of_ne_zero h
 obtain ⟨b1,o1,rfl,hc1⟩:=h0.2.2 (by omega)
 have k1:w.cell? ⟨b1,o1+s0,none⟩=some (.int .u32 (top:Int)):=by rw [hc1 s0 (by omega),htop];rfl
 have vn:m=lval ((limbs m).take s0)+4294967296^s0*top:=by
  have:=lval_take_succ (limbs m) s0 (by omega)
  rw [List.take_of_length_le (by omega),lval_limbs,←htop] at this
  exact this
 have hb:bl top≤32:=(bl_le top 32).2 (by simpa using btop)
 have LZ:=hid (show ∀w,Calls Tryd.prog 90 #[.int .u32 (top:Int)] w fun e w'=>e=.returned (.int .i64 (32-(bl top:Int)))∧w=w' from fun w=>(Tryd.bits_LeadingZeros32 (top:Int) w (by omega) (by omega)).mono (by
  rintro e w' ⟨rfl,rfl⟩
  refine ⟨ret_int ?_,rfl⟩
  rw [show ((top:Int)).toNat=top by omega,bitLen_bl2 _ (by omega)]))
 have hbl:(bl m:Int)=32*((s0:Int)+1)-(32-(bl top:Int)):=by
  have e1:(4294967296:Nat)^s0=2^(32*s0):=by rw [Nat.pow_mul]
  have h1:=lval_take_lt (limbs m) s0 lN (by omega)
  rw [e1] at vn h1
  have:=bl_top _ top (32*s0) h1 ptop
  rw [←vn] at this
  omega
 have HB:=hid hbl
 have hcap:=h0.1
 have hcap2:=h0.2.1
 unfold maxLen at hcap2
 obtain ⟨bt,hbt⟩: ∃bt,bt=bl top:=⟨_,rfl⟩
 rw [←hbt] at LZ HB hb
 rw [hs] at hcap hm ⊢
 clear h0 hc1 htop vn hs hpos lN hbl hbt
 go_enter Tryd.func71,Tryd.ntmps71
 go_wp2_with (go_at_call 90;(with_reducible refine (LZ.out _).mono ?_);rintro e w1 ⟨rfl,rfl⟩)
 go_ret
 exact ⟨ret_int (by rw [HB.out];try omega),rfl⟩
end Go.Proofs.YtehhegbkahnhgaaDoor
namespace Go.Ulp
open Go.RowKit
theorem limbs_odd (q:Nat) (h:0<(limbs q).length):((limbs q).getD 0 0)%2=q%2:=by
 have h1:=val_drop 4294967296 (limbs q) 0 h
 rw [List.drop_zero] at h1
 have h2:=lval_limbs q
 unfold lval at h2
 omega
theorem cut_pos (neg:Bool) (M j:Nat) (mode:Int):cutN neg M ((j+1:Nat):Int) mode=if M%2^(j+1)≠0∧upN neg (decide (((M/2^(j+1):Nat):Int)%2=1)) (cmpI ((M%2^(j+1):Nat):Int) ((2^j:Nat):Int)) mode=true then M/2^(j+1)+1 else M/2^(j+1):=by
 unfold cutN
 rw [if_neg (by omega),Int.toNat_natCast];rfl
theorem cutC_pos (M j:Nat):cutC M ((j+1:Nat):Int)=lostB M (j+1):=by
 unfold cutC lostB
 rw [if_neg (by omega),Int.toNat_natCast]
theorem cut_neg (neg:Bool) (M n:Nat) (mode:Int):cutN neg M (-(n:Int)) mode=M*2^n∧cutC M (-(n:Int))=false:=by
 unfold cutN cutC
 rw [if_pos (by omega),if_pos (by omega),show (-(-(n:Int))).toNat=n by omega]
 exact ⟨rfl,rfl⟩
end Go.Ulp
namespace Go.Proofs.YtehhegbkahnhgaaDoor
open Go.RowKit Go.Ulp
set_option maxHeartbeats 1000000
set_option maxRecDepth 100000
theorem cut_left (neg:Bool) (a0:Option Addr) (c0 m n:Nat) (mode:Int) (w:World) (h0:Ns .u32 w a0 c0 (limbs m)) (hm:(limbs m).length≤4294967296) (hn:n≤1099511627776):
 Calls Tryd.prog 84 #[.bool neg,.slice a0 (limbs m).length c0,.int .i64 (-(n:Int)),.int .i64 mode] w fun e w'=>RetN2 w (m*2^n) (.bool false) e w':=by
 have H:=hid h0
 clear h0
 go_enter Tryd.func84,Tryd.ntmps84
 go_wp2_with (go_at_call 54;go_loud (with_reducible refine (leftN_any _ _ m n _ H.out (by omega) (by omega)).mono ?_);rintro e w1 ⟨a1,rfl,hN1,hb1⟩)
 go_ret2
 exact ⟨_,rfl,hN1,hb1⟩
theorem cut_right (neg:Bool) (a0:Option Addr) (c0 m j:Nat) (mode:Int) (w:World) (h0:Ns .u32 w a0 c0 (limbs m)) (hm:(limbs m).length≤4294967296) (hj:j≤549755813888):
 Calls Tryd.prog 84 #[.bool neg,.slice a0 (limbs m).length c0,.int .i64 ((j:Int)+1),.int .i64 mode] w fun e w'=>RetN2 w (cutN neg m ((j+1:Nat):Int) mode) (.bool (cutC m ((j+1:Nat):Int))) e w':=by
 have H:=hid h0
 clear h0
 rw [cut_pos,cutC_pos]
 obtain ⟨q,hq⟩: ∃q,q=m/2^(j+1):=⟨_,rfl⟩
 have RR:=hid (show Calls Tryd.prog 49 #[.slice a0 (limbs m).length c0,.int .i64 ((j:Int)+1)] w fun e w'=>RetN2 w (m/2^(j+1)) (.bool (lostB m (j+1))) e w' from right_any a0 c0 m (j+1) w H.out (by omega) (by omega))
 rw [←hq] at RR ⊢
 have hqm:q≤m:=by rw [hq];exact Nat.div_le_self _ _
 have hql:(limbs q).length≤(limbs m).length:=limbs_len_mono hqm
 have hle:q*2^(j+1)≤m:=by rw [hq];exact Nat.div_mul_le_self _ _
 have hml:(limbs (q*2^(j+1))).length≤(limbs m).length:=limbs_len_mono hle
 have hrest:m-q*2^(j+1)=m%2^(j+1):=by
  rw [hq];have:=Nat.div_add_mod m (2^(j+1));rw [Nat.mul_comm] at this;omega
 have hj1:0<((j+1:Nat):Int):=by omega
 by_cases hl:lostB m (j+1)=false
 ·have hz: ¬m%2^(j+1)≠0:=by unfold lostB at hl;simpa using hl
  rw [if_neg (fun h=>hz h.1)]
  rw [hl] at RR ⊢
  clear hq hqm hql hle hml hrest hz hl
  go_enter Tryd.func84,Tryd.ntmps84
  go_wp2_with (go_at_call 49;(with_reducible refine RR.out.mono ?_);rintro e w1 ⟨a1,rfl,hN1,hb1⟩)
  go_ret2
  exact ⟨_,rfl,hN1,hb1⟩
 ·have hl1:lostB m (j+1)=true:=by simpa using hl
  have hz:m%2^(j+1)≠0:=by unfold lostB at hl1;simpa using hl1
  rw [hl1] at RR ⊢
  obtain ⟨rest,hrs⟩: ∃r,r=m%2^(j+1):=⟨_,rfl⟩
  rw [←hrs] at hz hrest ⊢
  have hrl:(limbs rest).length≤(limbs m).length:=limbs_len_mono (by rw [hrs];exact Nat.mod_le _ _)
  obtain ⟨half,hhalf⟩: ∃x,x=cmpI (rest:Int) ((2^j:Nat):Int):=⟨_,rfl⟩
  obtain ⟨up,hup⟩: ∃x,x=upN neg (decide ((q:Int)%2=1)) half mode:=⟨_,rfl⟩
  have UP:=hid (show ∀od w,od=decide ((q:Int)%2=1)→Calls Tryd.prog 96 #[.bool neg,.bool od,.int .i64 half,.int .i64 mode] w fun e w'=>e=.returned (.bool up)∧w=w' from fun od w h=>by subst h;rw [hup];exact up_any _ _ _ _ w)
  have CM:=hid (show ∀a b c d w,Ns .u32 w a c (limbs rest)→Ns .u32 w b d (limbs (2^j))→Calls Tryd.prog 72 #[.slice a (limbs rest).length c,.slice b (limbs (2^j)).length d] w fun e w'=>e=.returned (.int .i64 half)∧ ∃nq,w'=w.drewN nq from fun a b c d w k0 k1=>by
   have:=compare_any a b c d rest (2^j) w k0 k1
   rw [←hhalf] at this
   exact this)
  have MI:=hid (show ∀a b c d w,Ns .u32 w a c (limbs m)→Ns .u32 w b d (limbs (q*2^(j+1)))→Calls Tryd.prog 74 #[.slice a (limbs m).length c,.slice b (limbs (q*2^(j+1))).length d] w fun e w'=>RetN w rest e w' from fun a b c d w k0 k1=>by
   have:=minus_any a b c d m (q*2^(j+1)) w k0 k1 (by omega) hle
   rwa [hrest] at this)
  have LQ:=hid (show ∀a c w,Ns .u32 w a c (limbs q)→Calls Tryd.prog 54 #[.slice a (limbs q).length c,.int .i64 ((j:Int)+1)] w fun e w'=>RetN w (q*2^(j+1)) e w' from fun a c w k=>leftN_any a c q (j+1) w k (by omega) (by omega))
  have hone:(limbs 1).length≤4294967296:=by
   have:(limbs 1).length≤1:=(digs_len_le 4294967296 (by omega) 1 1).2 (by omega)
   omega
  have LO:=hid (show ∀a c w,Ns .u32 w a c (limbs 1)→Calls Tryd.prog 54 #[.slice a (limbs 1).length c,.int .i64 (j:Int)] w fun e w'=>RetN w (2^j) e w' from fun a c w k=>by have:=leftN_any a c 1 j w k hone (by omega);rwa [Nat.one_mul] at this)
  have PL:=hid (show ∀a b c d w,Ns .u32 w a c (limbs q)→Ns .u32 w b d (limbs 1)→Calls Tryd.prog 56 #[.slice a (limbs q).length c,.slice b (limbs 1).length d] w fun e w'=>RetN w (q+1) e w' from fun a b c d w k0 k1=>plus_any a b c d q 1 w k0 k1 (by omega) hone)
  have OF:=hid (show ∀w,Calls Tryd.prog 21 #[.int .u64 1] w fun e w'=>RetN w 1 e w' from fun w=>natOf_any 1 (by omega) w)
  have hodd:(decide ((q:Int)%2=1))=decide (q%2=1):=by rw [decide_eq_decide];omega
  have hjj:((j+1:Nat):Int)-1=(j:Int):=by omega
  have HRES:=hid (show (if rest≠0∧upN neg (decide ((q:Int)%2=1)) half mode=true then q+1 else q)=if up=true then q+1 else q by
   rw [←hup];by_cases hu:up=true
   ·rw [if_pos ⟨hz,hu⟩,if_pos hu]
   ·rw [if_neg (fun h=>hu h.2),if_neg hu])
  rw [←hhalf,HRES.out]
  have HOD:=hid hodd
  clear hrs hup hhalf hrest hml hle hqm hq hl hl1 HRES hone hz hodd
  go_enter Tryd.func84,Tryd.ntmps84
  go_upto_region 8 with (first
   |(go_at_call 49;(with_reducible refine RR.out.mono ?_);rintro e w1 ⟨a1,rfl,hN1,hb1⟩)
   |(go_at_call 54;(first
    |((with_reducible refine (LQ.out _ _ _ hN1).mono ?_);rintro e w2 ⟨a2,rfl,hN2,hb2⟩)
    |((with_reducible refine (LO.out _ _ _ hN4).mono ?_);rintro e w5 ⟨a5,rfl,hN5,hb5⟩)))
   |(go_at_call 74;(with_reducible refine (MI.out _ _ _ _ _ (H.out.below (below_trans hb1 hb2)) hN2).mono ?_);rintro e w3 ⟨a3,rfl,hN3,hb3⟩)
   |(go_at_call 21;(with_reducible refine (OF.out _).mono ?_);rintro e w4 ⟨a4,rfl,hN4,hb4⟩)
   |(go_at_call 72;(with_reducible refine (CM.out _ _ _ _ _ ((hN3.below hb4).below hb5) hN5).mono ?_);rintro e w6 ⟨rfl,nq,rfl⟩))
  have y6:Below w.heap.size w (w5.drewN nq):=below_trans hb1 (below_trans hb2 (below_trans hb3 (below_trans hb4 (below_trans hb5 (below_drewN (Below.refl _ _) nq)))))
  have n6:Ns .u32 (w5.drewN nq) a1 (limbs q).length (limbs q):=hN1.below (below_trans hb2 (below_trans hb3 (below_trans hb4 (below_trans hb5 (below_drewN (Below.refl _ _) nq)))))
  clear hN1 hN2 hN3 hN4 hN5 hb2 hb3 hb4 hb5 RR CM MI LQ LO
  generalize w5.drewN nq=w6 at *
  have hcap2:=n6.2.1
  unfold maxLen at hcap2
  have N6:=hid n6
  by_cases hq0:(limbs q).length=0
  ·have hqz:q=0:=(limbs_nil q).1 (List.length_eq_zero_iff.1 hq0)
   have UP0:=hid (fun w=>UP.out false w (by subst hqz;rfl))
   have N7:=N6
   rw [hq0] at N7 PL ⊢
   clear n6 hqz
   go_upto_if 55 with (go_at_call 96;(with_reducible refine (UP0.out _).mono ?_);rintro e w7 ⟨rfl,rfl⟩)
   cases up
   ·go_wp2_with fail
    go_ret2
    have:=N6.out
    rw [hq0] at this
    exact ⟨a1,by rw [hq0];rfl,by rw [hq0];exact this,y6⟩
   ·go_wp2_with (first
     |(go_at_call 21;(with_reducible refine (OF.out _).mono ?_);rintro e w8 ⟨a8,rfl,hN8,hb8⟩)
     |(go_at_call 56;(with_reducible refine (PL.out _ _ _ _ _ (N7.out.below hb8) hN8).mono ?_);rintro e w9 ⟨a9,rfl,hN9,hb9⟩))
    go_ret2
    exact ⟨_,rfl,hN9,below_trans (below_trans y6 hb8) hb9⟩
  ·obtain ⟨b1,o1,rfl,hc1⟩:=n6.2.2 (by omega)
   obtain ⟨x,hx⟩: ∃x,x=(limbs q).getD 0 0:=⟨_,rfl⟩
   have k1:w6.cell? ⟨b1,o1,none⟩=some (.int .u32 (x:Int)):=by have:=hc1 0 (by omega);rw [hx];exact this
   have hxo:x%2=q%2:=by rw [hx];exact limbs_odd q (by omega)
   have hx2:x<4294967296:=by rw [hx];exact (limbs_lim q).getD (by omega) 0
   have hpos:0<(limbs q).length:=by omega
   have hx3:(x:Int)%2=0∨(x:Int)%2=1:=by omega
   have UP0:=hid (fun w=>UP.out ((x:Int)%2==1) w (by
    rw [Bool.eq_iff_iff,beq_iff_eq,decide_eq_true_eq];omega))
   clear n6 hc1 hx hxo hq0
   go_upto_if 55 with (go_at_call 96;(with_reducible refine (UP0.out _).mono ?_);rintro e w7 ⟨rfl,rfl⟩)
   cases up
   ·go_wp2_with fail
    go_ret2
    exact ⟨_,rfl,N6.out,y6⟩
   ·go_wp2_with (first
     |(go_at_call 21;(with_reducible refine (OF.out _).mono ?_);rintro e w8 ⟨a8,rfl,hN8,hb8⟩)
     |(go_at_call 56;(with_reducible refine (PL.out _ _ _ _ _ (N6.out.below hb8) hN8).mono ?_);rintro e w9 ⟨a9,rfl,hN9,hb9⟩))
    go_ret2
    exact ⟨_,rfl,hN9,below_trans (below_trans y6 hb8) hb9⟩
theorem cut_any (neg:Bool) (a0:Option Addr) (c0 m:Nat) (k mode:Int) (w:World) (h0:Ns .u32 w a0 c0 (limbs m)) (hm:(limbs m).length≤4294967296) (hk: -549755813888≤k∧k≤549755813888):
 Calls Tryd.prog 84 #[.bool neg,.slice a0 (limbs m).length c0,.int .i64 k,.int .i64 mode] w fun e w'=>RetN2 w (cutN neg m k mode) (.bool (cutC m k)) e w':=by
 by_cases h:k≤0
 ·obtain ⟨n,rfl⟩: ∃n:Nat,k= -(n:Int):=⟨(-k).toNat,by omega⟩
  rw [(cut_neg neg m n mode).1,(cut_neg neg m n mode).2]
  exact cut_left neg a0 c0 m n mode w h0 hm (by omega)
 ·obtain ⟨j,rfl⟩: ∃j:Nat,k=((j+1:Nat):Int):=⟨(k-1).toNat,by omega⟩
  exact cut_right neg a0 c0 m j mode w h0 hm (by omega)
end Go.Proofs.YtehhegbkahnhgaaDoor
namespace Go.Ulp
open Go.RowKit
theorem limbs_le_bits (M n:Nat):(limbs M).length≤n↔M<2^(32*n):=by
 have h:=digs_len_le 4294967296 (by omega) M n
 rw [Nat.pow_mul];exact h
theorem lim_limbs (M:Nat):Lim (limbs M):=limbs_lim M
def DV (t:TypeId) (w:World) (g:Nat) (D:Dy):Prop:= ∃am cm,QL t w g (decide (D.1<0)) (.slice am (limbs D.1.natAbs).length cm) D.2∧Ns .u32 w am cm (limbs D.1.natAbs)
theorem DV.below {t:TypeId} {w w':World} {g:Nat} {D:Dy} (h:DV t w g D) (hb:Below w.heap.size w w'):DV t w' g D:=by
 obtain ⟨am,cm,h1,h2⟩:=h;exact ⟨am,cm,h1.below hb,h2.below hb⟩
theorem QL.put {t:TypeId} {w:World} {g:Nat} {n:Bool} {v:Value} {k:Int} (h:QL t w g n v k) (n':Bool) (v':Value) (k':Int):
 QL t (((w.setCell ⟨g,0,none⟩ (.bool n')).setCell ⟨g,1,none⟩ v').setCell ⟨g,2,none⟩ (.int .i64 k')) g n' v' k':=by
 have h1:=(h.set0D n').set1D v'
 refine ⟨⟨(cell_set_ne (by omega)).trans h1.1.1,(cell_set_ne (by omega)).trans h1.1.2.1,?_,?_,?_⟩,?_,?_⟩
 ·rw [frozen_setCell];exact h1.1.2.2.1
 ·rw [frozen_setCell];exact h1.1.2.2.2.1
 ·exact h1.1.2.2.2.2.setCell _ _
 ·exact World.cell?_setCell_same _ _ _ ((cell_set_ne (by omega)).trans ((cell_set_ne (by omega)).trans h.2.1))
 ·rw [frozen_setCell];exact h1.2.2
theorem DV.put {t:TypeId} {w:World} {g:Nat} {n:Bool} {v:Value} {k:Int} {D:Dy} {am:Option Addr} {cm:Nat} (h:QL t w g n v k) (hN:Ns .u32 w am cm (limbs D.1.natAbs)) (hv: ∀x,v≠ .int .u32 x):
 DV t (((w.setCell ⟨g,0,none⟩ (.bool (decide (D.1<0)))).setCell ⟨g,1,none⟩ (.slice am (limbs D.1.natAbs).length cm)).setCell ⟨g,2,none⟩ (.int .i64 D.2)) g D:=
 ⟨am,cm,h.put _ _ _,hN.set3 h hv _ _ _⟩
theorem DV.none_form {t:TypeId} {w:World} {g:Nat} (h:DV t w g (0,0)): ∃am cm,QL t w g false (.slice am 0 cm) 0:=by
 obtain ⟨am,cm,h1,-⟩:=h
 refine ⟨am,cm,?_⟩
 have e:(limbs ((0:Int),(0:Int)).1.natAbs).length=0:=by rw [show limbs ((0:Int),(0:Int)).1.natAbs= [] from limbs_zero];rfl
 rw [e] at h1
 exact h1
def Fact.q0 (B:Nat) (t:TypeId):Fact:=⟨fun v w=> ∃g,v=.pointer (some ⟨g,0,none⟩)∧B≤g∧QL t w g false (.slice none 0 0) 0,fun _ _ _ h hb=>by
 obtain ⟨g,h1,h2,h3⟩:=h;exact ⟨g,h1,h2,h3.below hb⟩⟩
theorem QL.far3 {t:TypeId} {w:World} {g:Nat} {n:Bool} {v:Value} {k:Int} (h:QL t w g n v k) {b:Nat} (hne:g≠b) (u0 u1 u2:Value):
 QL t (((w.setCell ⟨b,0,none⟩ u0).setCell ⟨b,1,none⟩ u1).setCell ⟨b,2,none⟩ u2) g n v k:=((h.farD _ _ hne).farD _ _ hne).farD _ _ hne
theorem Nz.set3Q {t e:TypeId} {w:World} {ao:Option Addr} {cap:Nat} {L:List Nat} (h:Nz e w ao cap L) {g:Nat} {n:Bool} {v:Value} {k:Int} (z:QL t w g n v k) (hne:t≠e) (u0 u1 u2:Value):
 Nz e (((w.setCell ⟨g,0,none⟩ u0).setCell ⟨g,1,none⟩ u1).setCell ⟨g,2,none⟩ u2) ao cap L:=
 ((h.setCell z.1.2.2.2.2 hne _ _).setCell (z.1.2.2.2.2.setCell _ _) hne _ _).setCell ((z.1.2.2.2.2.setCell _ _).setCell _ _) hne _ _
theorem Below.put3 {B:Nat} {w w':World} (h:Below B w w') {g:Nat} (hg:B≤g) (u0 u1 u2:Value):Below B w (((w'.setCell ⟨g,0,none⟩ u0).setCell ⟨g,1,none⟩ u1).setCell ⟨g,2,none⟩ u2):=
 ((h.setCell hg _).setCell hg _).setCell hg _
theorem tw_lt {n A:Nat} (h0:0<n) (h:n<2^A):tw n<A:=by
 have h1:=(od_tw n h0).1
 have h2:=od_pos n h0
 have h3:2^tw n≤n:=by
  conv=>rhs;rw [←h1]
  exact Nat.le_mul_of_pos_left _ h2
 exact (Nat.pow_lt_pow_iff_right (a:=2) (by omega)).1 (Nat.lt_of_le_of_lt h3 h)
theorem nrm_bd (y e:Int) (A:Nat) (h:y.natAbs<2^A):(nrm y e).1.natAbs<2^A∧((nrm y e).1=0∧(nrm y e).2=0∨e≤(nrm y e).2∧(nrm y e).2<e+A):=by
 by_cases h0:y=0
 ·subst h0;exact ⟨h,.inl ⟨rfl,rfl⟩⟩
 ·refine ⟨by rw [nrm_abs y e h0];exact Nat.lt_of_le_of_lt (od_le _) h,.inr ?_⟩
  have h1:=tw_lt (n:=y.natAbs) (by omega) h
  have h2:(nrm y e).2=e+tw y.natAbs:=by unfold nrm;rw [if_neg h0]
  rw [h2];omega
def Fact.q (t:TypeId) (D:Dy) (A T:Nat):Fact:=⟨fun v w=>QD t w D A T v,fun _ _ _ h hb=>h.below hb⟩
end Go.Ulp
namespace Go.Proofs.YtehhegbkahnhgaaDoor
open Go.RowKit Go.Ulp
set_option maxHeartbeats 1000000
set_option maxRecDepth 100000
end Go.Proofs.YtehhegbkahnhgaaDoor
namespace Go.Ulp
open Go.RowKit
def mulK (D:Dy) (p:Int):Bool:=decide (p≤D.2∨D.1=0)
def mplD (D:Dy) (p mode:Int):Dy:=if mulK D p=true then nrm D.1 D.2 else nrm (sg (decide (D.1<0)) (cutN (decide (D.1<0)) D.1.natAbs (p-D.2) mode:Int)) p
def mplC (D:Dy) (p:Int):Bool:=if mulK D p=true then false else cutC D.1.natAbs (p-D.2)
def RetMp (w:World) (D:Dy) (ch:Bool) (e:Ending) (w':World):Prop:= ∃v,e=.returned (.tuple #[v,.bool ch])∧VD w' D v∧Below w.heap.size w w'
end Go.Ulp
namespace Go.Proofs.YtehhegbkahnhgaaDoor
open Go.RowKit Go.Ulp
set_option maxHeartbeats 1000000
set_option maxRecDepth 100000
theorem multiple_any (v:Value) (D:Dy) (p mode:Int) (w:World) (hv:VD w D v) (hl:(limbs D.1.natAbs).length≤4294967296) (he: -274877906944≤D.2∧D.2≤274877906944) (hp: -274877906944≤p∧p≤274877906944)
 (hcl:(limbs (cutN (decide (D.1<0)) D.1.natAbs (p-D.2) mode)).length≤4294967296) (hT:Tab 0 w):
 Calls Tryd.prog 51 #[v,.int .i64 p,.int .i64 mode] w (RetMp w (mplD D p mode) (mplC D p)):=by
 obtain ⟨am,cm,rfl,hN⟩:=hv
 have HN:=hid hN
 have HT:=hid hT
 have lD:=dy_len D
 have yb0:Below w.heap.size w ((w.alloc (.cells #[.bool (decide (D.1<0)),.slice am (limbs D.1.natAbs).length cm,.int .i64 D.2] 24)).alloc (.cells #[.bool false,.slice none 0 0,.int .i64 0] 24)):=by (repeat' first|(with_reducible first|assumption|apply bR|apply bA|apply bN|apply bD|apply bL|apply bS)|refine bT ?_ (by assumption)|go_size)
 have zA0:QL 24 ((w.alloc (.cells #[.bool (decide (D.1<0)),.slice am (limbs D.1.natAbs).length cm,.int .i64 D.2] 24)).alloc (.cells #[.bool false,.slice none 0 0,.int .i64 0] 24)) w.heap.size (decide (D.1<0)) (.slice am (limbs D.1.natAbs).length cm) D.2:=(QL.made rfl).alloc _
 have zR0:QL 24 ((w.alloc (.cells #[.bool (decide (D.1<0)),.slice am (limbs D.1.natAbs).length cm,.int .i64 D.2] 24)).alloc (.cells #[.bool false,.slice none 0 0,.int .i64 0] 24)) (w.heap.size+1) false (.slice none 0 0) 0:=QL.made (by first|omega|(simp;done)|(simp;omega))
 cases hk:mulK D p
 ·have e1:mplD D p mode=nrm (sg (decide (D.1<0)) (cutN (decide (D.1<0)) D.1.natAbs (p-D.2) mode:Int)) p:=by unfold mplD;rw [hk];rfl
  have e2:mplC D p=cutC D.1.natAbs (p-D.2):=by unfold mplC;rw [hk];rfl
  rw [e1,e2]
  have hk2: ¬(p≤D.2∨D.1=0):=of_decide_eq_false hk
  have hge: ¬p≤D.2:=fun h=>hk2 (.inl h)
  have hlb:(((limbs D.1.natAbs).length:Int)==0)=false:=beq_eq_false_iff_ne.2 (fun h=>hk2 (.inr (lD.1 (by omega))))
  have CU:=hid (fun w h=>cut_any (decide (D.1<0)) am cm D.1.natAbs (p-D.2) mode w h (by omega) (by omega))
  have NO:=hid (fun a c w h t=>normD_any (decide (D.1<0)) a c (cutN (decide (D.1<0)) D.1.natAbs (p-D.2) mode) p w h hcl (by omega) t)
  generalize nrm (sg (decide (D.1<0)) (cutN (decide (D.1<0)) D.1.natAbs (p-D.2) mode:Int)) p=R at *
  generalize cutN (decide (D.1<0)) D.1.natAbs (p-D.2) mode=q at *
  generalize cutC D.1.natAbs (p-D.2)=ch at *
  generalize D.1.natAbs=M0 at *
  generalize decide (D.1<0)=n0 at *
  generalize D.2=e0 at *
  clear hN hT hk hk2 e1 e2 lD hcl
  go_enter Tryd.func51,Tryd.ntmps51
  obtain ⟨⟨j0,j1,-,-,-⟩,j2,-⟩:=id zA0
  go_upto_region 4 with (go_at_call 84;(with_reducible refine (CU.out _ (HN.out.below yb0)).mono ?_);rintro en w1 ⟨a1,rfl,hN1,hb1⟩;have yb1:=below_trans yb0 hb1;have zA1:=zA0.below hb1;have zR1:=zR0.below hb1)
  obtain ⟨⟨i0,i1,-,-,-⟩,i2,-⟩:=id zA1
  go_wp2_with (go_at_call 20;(with_reducible refine (NO.out _ _ _ hN1 (HT.out.below yb1)).mono ?_);rintro en w3 ⟨v3,rfl,⟨a3,c3,rfl,hN3⟩,hb3⟩;have zR3:=zR1.below hb3;have yb3:=below_trans yb1 hb3;obtain ⟨⟨k0,k1,f0,f1,hs2⟩,k2,f2⟩:=id zR3)
  refine bodyPost_ret (by simp [results,Tryd.results51,go_sem,k0,k1,k2];try rfl) rfl ?_
  exact ⟨_,rfl,⟨a3,c3,rfl,hN3.set3 zR3 (by intro x h;cases h) _ _ _⟩,((yb3.setCell (by first|omega|(simp;done)|(simp;omega)) _).setCell (by first|omega|(simp;done)|(simp;omega)) _).setCell (by first|omega|(simp;done)|(simp;omega)) _⟩
 ·have e1:mplD D p mode=nrm D.1 D.2:=by unfold mplD;rw [hk];rfl
  have e2:mplC D p=false:=by unfold mplC;rw [hk];rfl
  rw [e1,e2]
  have hk2:p≤D.2∨D.1=0:=of_decide_eq_true hk
  have hk3:p≤D.2∨(¬p≤D.2∧(limbs D.1.natAbs).length=0):=by
   rcases Int.lt_or_le D.2 p with h|h
   ·right;refine ⟨by omega,lD.2 ?_⟩
    rcases hk2 with h2|h2
    ·omega
    ·exact h2
   ·exact .inl h
  have NO:=hid (show ∀w,Ns .u32 w am cm (limbs D.1.natAbs)→Tab 0 w→Calls Tryd.prog 20 #[.bool (decide (D.1<0)),.slice am (limbs D.1.natAbs).length cm,.int .i64 D.2] w (RetVD w (nrm D.1 D.2)) from fun w k t=>by
   have:=normD_any (decide (D.1<0)) am cm D.1.natAbs D.2 w k (by omega) (by omega) t
   rwa [sg_self] at this)
  generalize nrm D.1 D.2=R at *
  generalize D.1.natAbs=M0 at *
  generalize decide (D.1<0)=n0 at *
  generalize D.2=e0 at *
  clear hN hT hk hk2 e1 e2 lD hcl
  rcases hk3 with hge|⟨hge,hz⟩
  ·go_enter Tryd.func51,Tryd.ntmps51
   obtain ⟨⟨j0,j1,-,-,-⟩,j2,-⟩:=id zA0
   go_wp2_with (go_at_call 20;(with_reducible refine (NO.out _ (HN.out.below yb0) (HT.out.below yb0)).mono ?_);rintro en w3 ⟨v3,rfl,⟨a3,c3,rfl,hN3⟩,hb3⟩;have zR3:=zR0.below hb3;have yb3:=below_trans yb0 hb3;obtain ⟨⟨k0,k1,f0,f1,hs2⟩,k2,f2⟩:=id zR3)
   refine bodyPost_ret (by simp [results,Tryd.results51,go_sem,k0,k1,k2];try rfl) rfl ?_
   exact ⟨_,rfl,⟨a3,c3,rfl,hN3.set3 zR3 (by intro x h;cases h) _ _ _⟩,((yb3.setCell (by first|omega|(simp;done)|(simp;omega)) _).setCell (by first|omega|(simp;done)|(simp;omega)) _).setCell (by first|omega|(simp;done)|(simp;omega)) _⟩
  ·rw [hz] at zA0 zR0 yb0 NO ⊢
   clear hz
   go_enter Tryd.func51,Tryd.ntmps51
   obtain ⟨⟨j0,j1,-,-,-⟩,j2,-⟩:=id zA0
   go_wp2_with (go_at_call 20;(with_reducible refine (NO.out _ (HN.out.below yb0) (HT.out.below yb0)).mono ?_);rintro en w3 ⟨v3,rfl,⟨a3,c3,rfl,hN3⟩,hb3⟩;have zR3:=zR0.below hb3;have yb3:=below_trans yb0 hb3;obtain ⟨⟨k0,k1,f0,f1,hs2⟩,k2,f2⟩:=id zR3)
   refine bodyPost_ret (by simp [results,Tryd.results51,go_sem,k0,k1,k2];try rfl) rfl ?_
   exact ⟨_,rfl,⟨a3,c3,rfl,hN3.set3 zR3 (by intro x h;cases h) _ _ _⟩,((yb3.setCell (by first|omega|(simp;done)|(simp;omega)) _).setCell (by first|omega|(simp;done)|(simp;omega)) _).setCell (by first|omega|(simp;done)|(simp;omega)) _⟩
end Go.Proofs.YtehhegbkahnhgaaDoor
namespace Go.Ulp
open Go.RowKit
theorem half_scale (r j:Nat) (hj:0<j):cmpI ((r:Int)+(r:Int)) (pw j)=cmpI (r:Int) ((2^(j-1):Nat):Int):=by
 obtain ⟨i,rfl⟩: ∃i,j=i+1:=⟨j-1,by omega⟩
 have e:pw (i+1)=2*((2^(i+1-1):Nat):Int):=by rw [pw_nat,Nat.pow_succ,Nat.add_sub_cancel];omega
 rw [e]
 unfold cmpI
 split<;>split<;>(try split)<;>(try split)<;>omega
def ctLow (X:Int) (S:Nat):Int:=X/pw S
def ctNear (X:Int) (S:Nat):Int:=cmpI (X%pw S+X%pw S) (pw S)
def ctUp (X:Int) (S:Nat) (mode:Int):Bool:=upR (decide (X<0)) mode (ctNear X S) (ctLow X S+1)
def ctOut (X:Int) (S:Nat) (mode:Int):Int:=ctLow X S+(if ctUp X S mode=true then 1 else 0)
theorem ct_core (d:Int) (j:Nat) (mode:Int) (m0:0≤mode) (m1:mode≤4) (hj:0<j) (hr:d%pw j≠0):
 ctOut d j mode=sg (decide (d<0)) (cutN (decide (d<0)) d.natAbs (j:Int) mode:Int):=by
 have hp:=pw_pos j
 obtain ⟨M,hM⟩: ∃M,M=d.natAbs:=⟨_,rfl⟩
 obtain ⟨R,hR⟩: ∃R,R=M/2^j:=⟨_,rfl⟩
 obtain ⟨r,hrr⟩: ∃r,r=M%2^j:=⟨_,rfl⟩
 have hdm:2^j*R+r=M:=by rw [hR,hrr];exact Nat.div_add_mod _ _
 have hrl:r<2^j:=by rw [hrr];exact Nat.mod_lt _ (Nat.two_pow_pos j)
 have hcut: ∀neg,(cutN neg M (j:Int) mode:Int)=if r≠0∧upN neg (decide ((R:Int)%2=1)) (cmpI (r:Int) ((2^(j-1):Nat):Int)) mode=true then (R:Int)+1 else (R:Int):=by
  intro neg
  unfold cutN
  rw [if_neg (by omega),Int.toNat_natCast,←hR,←hrr]
  split
  ·rw [Int.natCast_add];rfl
  ·rfl
 have hPz:((2^j:Nat):Int)=pw j:=rfl
 have hdz:(M:Int)=pw j*(R:Int)+(r:Int):=by rw [←hdm,Int.natCast_add,Int.natCast_mul,hPz]
 have hrz:(r:Int)<pw j:=by rw [←hPz];omega
 rw [←hM]
 rcases Int.lt_or_le d 0 with hs|hs
 ·have hd:d= -(M:Int):=by omega
  have hr0:r≠0:=by
   intro h0;apply hr
   rw [hd,hdz,h0]
   have: -(pw j*(R:Int)+((0:Nat):Int))=pw j*(-(R:Int)):=by rw [Int.mul_neg];omega
   rw [this];exact Int.mul_emod_right _ _
  have hq:d/pw j= -(R:Int)-1∧d%pw j=pw j-r:=by
   have e:d=(pw j-(r:Int))+pw j*(-(R:Int)-1):=by rw [hd,hdz,Int.mul_sub,Int.mul_neg,Int.mul_one];omega
   refine ⟨?_,?_⟩
   ·rw [e,Int.add_mul_ediv_left _ _ (by omega),Int.ediv_eq_zero_of_lt (by omega) (by omega)];omega
   ·rw [e,Int.add_mul_emod_self_left,Int.emod_eq_of_lt (by omega) (by omega)]
  have hn:ctNear d j= -cmpI (r:Int) ((2^(j-1):Nat):Int):=by
   unfold ctNear
   rw [hq.2,←half_scale r j hj]
   unfold cmpI
   split<;>split<;>(try split)<;>(try split)<;>omega
  unfold ctOut ctUp
  rw [hn,decide_eq_true hs,show ctLow d j+1= -(R:Int) by unfold ctLow;rw [hq.1];omega,up_neg _ mode (R:Int) m0 m1,hcut]
  unfold ctLow
  rw [hq.1]
  cases hu:upN true (decide ((R:Int)%2=1)) (cmpI (r:Int) ((2^(j-1):Nat):Int)) mode
  ·rw [if_pos (by rfl),if_neg (by simp)];unfold sg;simp<;>omega
  ·rw [if_neg (by simp),if_pos ⟨hr0,rfl⟩];unfold sg;simp<;>omega
 ·have hd:d=(M:Int):=by omega
  have hq:d/pw j=(R:Int)∧d%pw j=r:=by
   have e:d=(r:Int)+pw j*(R:Int):=by rw [hd,hdz];omega
   refine ⟨?_,?_⟩
   ·rw [e,Int.add_mul_ediv_left _ _ (by omega),Int.ediv_eq_zero_of_lt (by omega) (by omega)];omega
   ·rw [e,Int.add_mul_emod_self_left,Int.emod_eq_of_lt (by omega) (by omega)]
  have hr0:r≠0:=by intro h0;apply hr;rw [hq.2,h0];try rfl
  have hn:ctNear d j=cmpI (r:Int) ((2^(j-1):Nat):Int):=by
   unfold ctNear
   rw [hq.2,half_scale r j hj]
  unfold ctOut ctUp
  rw [hn,decide_eq_false (by omega),show ctLow d j+1=(R:Int)+1 by unfold ctLow;rw [hq.1],up_pos _ mode (R:Int) m0 m1,hcut]
  unfold ctLow
  rw [hq.1]
  cases hu:upN false (decide ((R:Int)%2=1)) (cmpI (r:Int) ((2^(j-1):Nat):Int)) mode
  ·rw [if_neg (by simp),if_neg (by simp)];unfold sg;simp
  ·rw [if_pos (by rfl),if_pos ⟨hr0,rfl⟩];unfold sg;simp
theorem cut_plain (D:Dy) (X p:Int) (S:Nat) (mode:Int) (m0:0≤mode) (m1:mode≤4) (hI:IsN D) (hX:nrm X (-(S:Int))=shD D (-p)):
 (X%pw S=0↔mulK D p=true)∧(X%pw S≠0→nrm (ctOut X S mode) p=mplD D p mode∧mplC D p=true):=by
 by_cases h0:D.1=0
 ·have hX0:X=0:=by
   have h1:(nrm X (-(S:Int))).1=0:=by rw [hX];unfold shD;rw [h0];rfl
   exact (nrm_zero_iff _ _).1 h1
  subst hX0
  have e:(0:Int)%pw S=0:=Int.zero_emod _
  exact ⟨⟨fun _=>by unfold mulK;exact decide_eq_true (.inr h0),fun _=>e⟩,fun h=>absurd e h⟩
 have hodd:D.1.natAbs%2=1:=by rcases hI with ⟨h,-⟩|h;exact absurd h h0;exact h
 have hsh:shD D (-p)=(D.1,D.2+ -p):=by unfold shD;exact nrm_of_isN (D.1,D.2+ -p) (.inr hodd)
 rw [hsh] at hX
 obtain ⟨k,hk1,hk2⟩:=nrm_rep X (-(S:Int))
 rw [hX] at hk1 hk2
 have hX0:X≠0:=by intro h;rw [h] at hk1;have hp:=pw_pos k;have:D.1*pw k=0:=hk1.symm;rcases Int.mul_eq_zero.1 this with h|h;exact h0 h;omega
 have hk3:D.2+ -p= -(S:Int)+k:=hk2 hX0
 have hk1':X=D.1*pw k:=hk1
 rcases Int.lt_or_le D.2 p with hlt|hle
 ·obtain ⟨j,hj⟩: ∃j:Nat,(j:Int)=p-D.2:=⟨(p-D.2).toNat,by omega⟩
  have hS:S=k+j:=by omega
  have hjp:0<j:=by omega
  have hpk:=pw_pos k
  have hXX:X=pw k*D.1:=by rw [hk1',Int.mul_comm]
  have hmod:X%pw S=pw k*(D.1%pw j):=by rw [hS,pw_add,hXX];exact Int.mul_emod_mul_of_pos _ _ hpk
  have hdiv:X/pw S=D.1/pw j:=by rw [hS,pw_add,hXX];exact Int.mul_ediv_mul_of_pos _ _ hpk
  have hdr:D.1%pw j≠0:=by
   intro h
   obtain ⟨i,rfl⟩: ∃i,j=i+1:=⟨j-1,by omega⟩
   have h2:D.1=pw (i+1)*(D.1/pw (i+1)):=by have:=Int.mul_ediv_add_emod D.1 (pw (i+1));omega
   rw [pw_add,show pw 1=2 from rfl,Int.mul_comm (pw i) 2,Int.mul_assoc] at h2
   omega
  have hmk:mulK D p=false:=by unfold mulK;exact decide_eq_false (fun h=>h.elim (by omega) h0)
  have hne:X%pw S≠0:=by
   rw [hmod];intro h;rcases Int.mul_eq_zero.1 h with h|h
   ·omega
   ·exact hdr h
  refine ⟨⟨fun h=>absurd h hne,fun h=>by rw [hmk] at h;cases h⟩,fun _=>?_⟩
  have hneg:decide (X<0)=decide (D.1<0):=by
   have h1:X<0↔D.1<0:=by
    rw [hk1']
    have:=pw_lt (a:=D.1) (b:=0) k
    rwa [Int.zero_mul] at this
   exact decide_eq_decide.2 h1
  have hnear:ctNear X S=ctNear D.1 j:=by
   unfold ctNear
   rw [hmod,hS,pw_add,←Int.mul_add,Int.mul_comm (pw k) (D.1%pw j+D.1%pw j),Int.mul_comm (pw k) (pw j)]
   exact cmpI_pw _ _ k
  have hout:ctOut X S mode=ctOut D.1 j mode:=by
   unfold ctOut ctUp
   rw [hneg,hnear]
   unfold ctLow
   rw [hdiv]
  refine ⟨?_,?_⟩
  ·unfold mplD
   rw [hmk,if_neg (by simp),hout,ct_core D.1 j mode m0 m1 hjp hdr,hj]
  ·unfold mplC cutC
   rw [hmk,if_neg (by simp),if_neg (by omega)]
   refine decide_eq_true (fun h=>hdr ?_)
   rw [show (p-D.2).toNat=j by omega] at h
   have h5:=Nat.div_add_mod D.1.natAbs (2^j)
   rw [h,Nat.add_zero] at h5
   rcases Int.lt_or_le D.1 0 with hs|hs
   ·have:D.1=pw j*(-((D.1.natAbs/2^j:Nat):Int)):=by
     rw [pw_nat,Int.mul_neg,←Int.natCast_mul,h5];omega
    rw [this];exact Int.mul_emod_right _ _
   ·have:D.1=pw j*(((D.1.natAbs/2^j:Nat):Int)):=by
     rw [pw_nat,←Int.natCast_mul,h5];omega
    rw [this];exact Int.mul_emod_right _ _
 ·have hmk:mulK D p=true:=by unfold mulK;exact decide_eq_true (.inl hle)
  obtain ⟨i,hi⟩: ∃i:Nat,k=i+S:=⟨k-S,by omega⟩
  have hz:X%pw S=0:=by rw [hk1',hi,pw_add,←Int.mul_assoc];exact Int.mul_emod_left _ _
  exact ⟨⟨fun _=>hmk,fun _=>hz⟩,fun h=>absurd hz h⟩
end Go.Ulp
namespace Go.Proofs.YtehhegbkahnhgaaDoor
open Go.RowKit Go.Ulp
set_option maxHeartbeats 2000000
set_option maxRecDepth 100000
theorem zsign_any (a0:Option Addr) (c0:Nat) (x:Int) (w:World) (h0:Nz 3 w a0 c0 (zl x)):
 Calls Tryd.prog 93 #[.agg #[.bool (zneg x),.slice a0 (zl x).length c0]] w fun e w'=>e=.returned (.int .i64 (cmpI x 0))∧Below w.heap.size w w':=by
 have yb0:=below_alloc w (.cells #[.bool (zneg x),.slice a0 (zl x).length c0] 32)
 have h1:=h0.below yb0
 have ZC:=hid (show ∀w,Nz 3 w a0 c0 (zl x)→Calls Tryd.prog 27 #[.agg #[.bool (zneg x),.slice a0 (zl x).length c0],.agg #[.bool false,.slice none 0 0]] w fun e w'=>e=.returned (.int .i64 (cmpI x 0))∧Below w.heap.size w w' from fun w h=>zcmp_any a0 none c0 0 x 0 w h (Nz.nil' none 0 (by decide)))
 have zA:ZL 32 (w.alloc (.cells #[.bool (zneg x),.slice a0 (zl x).length c0] 32)) w.heap.size (zneg x) (.slice a0 (zl x).length c0):=ZL.made rfl
 obtain ⟨j0,j1,-,-,-⟩:=id zA
 clear h0
 go_enter Tryd.func93,Tryd.ntmps93
 go_wp2_with (go_at_call 27;(with_reducible refine (ZC.out _ h1).mono ?_);rintro en w1 ⟨rfl,hb1⟩)
 refine bodyPost_ret (by simp [results,Tryd.results93,go_sem];try rfl) rfl ?_
 exact ⟨rfl,below_trans yb0 hb1⟩
end Go.Proofs.YtehhegbkahnhgaaDoor
namespace Go.Ulp
open Go.RowKit
def RetZD (t:TypeId) (w:World) (x:Int) (e:Ending) (w':World):Prop:= ∃v,e=.returned v∧ZD t w' x v∧Below w.heap.size w w'
def RetZD2 (t:TypeId) (w:World) (x y:Int) (e:Ending) (w':World):Prop:= ∃v,e=.returned v∧ZD2 t w' x y v∧Below w.heap.size w w'
theorem RetZ.zd {t:TypeId} {w:World} {x:Int} {e:Ending} {w':World} (h:RetZ t w x e w'):RetZD t w x e w':=by
 obtain ⟨ao,cap,h1,h2,h3⟩:=h;exact ⟨_,h1,⟨ao,cap,rfl,h2⟩,h3⟩
theorem RetZ2.zd {t:TypeId} {w:World} {x y:Int} {e:Ending} {w':World} (h:RetZ2 t w x y e w'):RetZD2 t w x y e w':=by
 obtain ⟨ao,cap,bo,cbp,h1,h2,h3,h4⟩:=h;exact ⟨_,h1,⟨ao,cap,bo,cbp,rfl,h2,h3⟩,h4⟩
theorem ZD2.parts {t:TypeId} {w:World} {x y:Int} {v:Value} (h:ZD2 t w x y v): ∃a b,v=.tuple #[a,b]∧ZD t w x a∧ZD t w y b:=by
 obtain ⟨ao,cap,bo,cbp,h1,h2,h3⟩:=h;exact ⟨_,_,h1,⟨ao,cap,rfl,h2⟩,⟨bo,cbp,rfl,h3⟩⟩
theorem ZD.cast {t:TypeId} {w:World} {x y:Int} {v:Value} (h:ZD t w x v) (e:x=y):ZD t w y v:=by rw [←e];exact h
theorem ZV.cast {tz ti:TypeId} {w:World} {x y:Int} {g:Nat} (h:ZV tz ti w g x) (e:x=y):ZV tz ti w g y:=by rw [←e];exact h
theorem ZV.lt {tz ti:TypeId} {w:World} {x:Int} {g:Nat} (h:ZV tz ti w g x):g<w.heap.size:=by obtain ⟨ao,cap,h1,h2⟩:=h;exact h1.lt
theorem zv_made {tz ti:TypeId} {w:World} {x:Int} {a:Option Addr} {c:Nat} (h:Nz ti w a c (zl x)) (g:Nat) (hg:g=w.heap.size):ZV tz ti (w.alloc (.cells #[.bool (zneg x),.slice a (zl x).length c] tz)) g x:=⟨a,c,ZL.made hg,h.below (below_alloc _ _)⟩
theorem zv_store1 {tz ti:TypeId} {w0 wn:World} {g:Nat} {n:Bool} {u:Value} {x:Int} {a:Option Addr} {c:Nat} (hne:tz≠ti) (hb:Below w0.heap.size w0 wn) (hg:w0.heap.size≤g) (z:ZL tz wn g n u) (h:Nz ti wn a c (zl x)):
 Below w0.heap.size w0 ((wn.setCell ⟨g,0,none⟩ (.bool (zneg x))).setCell ⟨g,1,none⟩ (.slice a (zl x).length c))∧ZV tz ti ((wn.setCell ⟨g,0,none⟩ (.bool (zneg x))).setCell ⟨g,1,none⟩ (.slice a (zl x).length c)) g x:=by
 exact ⟨(hb.setCell (p:=⟨g,0,none⟩) hg _).setCell (p:=⟨g,1,none⟩) hg _,ZV.store z h hne⟩
theorem zv_store2 {tz ti:TypeId} {w0 wn:World} {g k:Nat} {n n':Bool} {u u':Value} {x y:Int} {a b:Option Addr} {c d:Nat} (hne:tz≠ti) (hb:Below w0.heap.size w0 wn) (hg:w0.heap.size≤g) (hk:w0.heap.size≤k) (hgk:g≠k) (z:ZL tz wn g n u) (z':ZL tz wn k n' u') (h:Nz ti wn a c (zl x)) (h':Nz ti wn b d (zl y)):
 Below w0.heap.size w0 ((((wn.setCell ⟨g,0,none⟩ (.bool (zneg x))).setCell ⟨g,1,none⟩ (.slice a (zl x).length c)).setCell ⟨k,0,none⟩ (.bool (zneg y))).setCell ⟨k,1,none⟩ (.slice b (zl y).length d))∧ZV tz ti ((((wn.setCell ⟨g,0,none⟩ (.bool (zneg x))).setCell ⟨g,1,none⟩ (.slice a (zl x).length c)).setCell ⟨k,0,none⟩ (.bool (zneg y))).setCell ⟨k,1,none⟩ (.slice b (zl y).length d)) g x∧ZV tz ti ((((wn.setCell ⟨g,0,none⟩ (.bool (zneg x))).setCell ⟨g,1,none⟩ (.slice a (zl x).length c)).setCell ⟨k,0,none⟩ (.bool (zneg y))).setCell ⟨k,1,none⟩ (.slice b (zl y).length d)) k y:=by
 obtain ⟨h1,h2⟩:=zv_store1 hne hb hg z h
 have z2:=((z'.far ⟨g,0,none⟩ (.bool (zneg x)) hgk.symm).far ⟨g,1,none⟩ (.slice a (zl x).length c) hgk.symm)
 have n2:=h'.st2 z.2.2.2.2 hne (.bool (zneg x)) (.slice a (zl x).length c)
 obtain ⟨h3,h4⟩:=zv_store1 hne h1 hk z2 n2
 exact ⟨h3,h2.set2 z2.2.2.2.2 hne hgk _ _,h4⟩
theorem zv_made2 {tz ti:TypeId} {w:World} {x y:Int} {a b:Option Addr} {c d:Nat} (h:Nz ti w a c (zl x)) (h':Nz ti w b d (zl y)):
 Below w.heap.size w ((w.alloc (.cells #[.bool (zneg x),.slice a (zl x).length c] tz)).alloc (.cells #[.bool (zneg y),.slice b (zl y).length d] tz))∧ZV tz ti ((w.alloc (.cells #[.bool (zneg x),.slice a (zl x).length c] tz)).alloc (.cells #[.bool (zneg y),.slice b (zl y).length d] tz)) w.heap.size x∧ZV tz ti ((w.alloc (.cells #[.bool (zneg x),.slice a (zl x).length c] tz)).alloc (.cells #[.bool (zneg y),.slice b (zl y).length d] tz)) (w.heap.size+1) y:=
 ⟨below_trans (below_alloc _ _) (below_alloc _ _),(zv_made h _ rfl).below (below_alloc _ _),zv_made (h'.below (below_alloc _ _)) _ (by simp)⟩
theorem wp_worldZ {P:Program} {c:Code} {Q:Exit→Act→World→Prop} {a:Act} {w0:World} (F:World→Prop) (hF:F w0) (h: ∀w,F w→Code.wp P c Q a w):Code.wp P c Q a w0:=h w0 hF
end Go.Ulp
namespace Go.Proofs.YtehhegbkahnhgaaDoor
open Go.RowKit Go.Ulp
set_option maxHeartbeats 1000000
set_option maxRecDepth 100000
theorem zaddD (v u:Value) (x y:Int) (w:World) (hv:ZD 3 w x v) (hu:ZD 3 w y u) (hx:(zl x).length≤4000000000) (hy:(zl y).length≤4000000000):Calls Tryd.prog 59 #[v,u] w (RetZD 3 w (x+y)):=by
 obtain ⟨a,c,rfl,h⟩:=hv;obtain ⟨b,d,rfl,k⟩:=hu
 exact (zadd_any a b c d x y w h k (by omega) (by omega)).mono fun _ _ h=>h.zd
theorem zsubD (v u:Value) (x y:Int) (w:World) (hv:ZD 3 w x v) (hu:ZD 3 w y u) (hx:(zl x).length≤4000000000) (hy:(zl y).length≤4000000000):Calls Tryd.prog 92 #[v,u] w (RetZD 3 w (x-y)):=by
 obtain ⟨a,c,rfl,h⟩:=hv;obtain ⟨b,d,rfl,k⟩:=hu
 exact (zsub_any a b c d x y w h k (by omega) (by omega)).mono fun _ _ h=>h.zd
theorem zmulD (v u:Value) (x y:Int) (w:World) (hv:ZD 3 w x v) (hu:ZD 3 w y u) (hx:(zl x).length≤1000000000) (hy:(zl y).length≤1000000000):Calls Tryd.prog 31 #[v,u] w (RetZD 3 w (x*y)):=by
 obtain ⟨a,c,rfl,h⟩:=hv;obtain ⟨b,d,rfl,k⟩:=hu
 exact (zmul_any a b c d x y w h k (by omega) (by omega)).mono fun _ _ h=>h.zd
theorem zdivD (v u:Value) (x y:Int) (w:World) (hv:ZD 3 w x v) (hu:ZD 3 w y u) (hx:(zl x).length≤4000000000) (hy:(zl y).length≤1000000000) (hy0:y≠0):Calls Tryd.prog 61 #[v,u] w (RetZD2 3 w (x/y) (x%y)):=by
 obtain ⟨a,c,rfl,h⟩:=hv;obtain ⟨b,d,rfl,k⟩:=hu
 exact (zdiv_any a b c d x y w h k hx hy hy0).mono fun _ _ h=>h.zd
theorem zcmpD (v u:Value) (x y:Int) (w:World) (hv:ZD 3 w x v) (hu:ZD 3 w y u):Calls Tryd.prog 27 #[v,u] w fun e w'=>e=.returned (.int .i64 (cmpI x y))∧Below w.heap.size w w':=by
 obtain ⟨a,c,rfl,h⟩:=hv;obtain ⟨b,d,rfl,k⟩:=hu
 exact zcmp_any a b c d x y w h k
theorem zsignD (v:Value) (x:Int) (w:World) (hv:ZD 3 w x v):Calls Tryd.prog 93 #[v] w fun e w'=>e=.returned (.int .i64 (cmpI x 0))∧Below w.heap.size w w':=by
 obtain ⟨a,c,rfl,h⟩:=hv
 exact zsign_any a c x w h
theorem zpowD (n:Nat) (w:World) (hn:n≤1000000000):Calls Tryd.prog 32 #[.int .i64 (n:Int)] w (RetZD 3 w (pw n)):=(zpow_any n w hn).mono fun _ _ h=>h.zd
theorem zND (n:Int) (h0:0≤n) (h1:n<9223372036854775808) (w:World):Calls Tryd.prog 11 #[.int .i64 n] w (RetZD 3 w n):=by
 obtain ⟨k,rfl⟩:=Int.eq_ofNat_of_zero_le h0
 exact (zN_any k (by omega) w).mono fun _ _ h=>h.zd
end Go.Proofs.YtehhegbkahnhgaaDoor
namespace Go.Ulp
open Go.RowKit
def tenZ (n:Nat):Int:=((10^n:Nat):Int)
theorem zl_len_ten4 (n:Nat):(zl (tenZ n)).length≤n/4+1:=by
 unfold zl
 refine (digs_len_le 10000 (by omega) _ _).2 ?_
 unfold tenZ
 rw [Int.natAbs_natCast,show (10000:Nat)=10^4 from rfl,←Nat.pow_mul]
 exact Nat.pow_lt_pow_right (by omega) (by omega)
theorem tenZ_add (a b:Nat):tenZ a*tenZ b=tenZ (a+b):=by unfold tenZ;rw [←Int.natCast_mul,Nat.pow_add]
def dA (D:Dy):Nat:=D.1.natAbs*2^D.2.toNat
end Go.Ulp
namespace Go.Proofs.YtehhegbkahnhgaaDoor
open Go.RowKit Go.Ulp
set_option maxHeartbeats 1000000
set_option maxRecDepth 100000
theorem zten_aux (f:Nat): ∀(n:Nat) (w:World),n≤f→n≤6000000000→Calls Tryd.prog 66 #[.int .i64 (n:Int)] w fun e w'=>RetZ 3 w (tenZ n) e w':=by
 induction f with
 |zero=>
  intro n w hn _
  obtain rfl:n=0:=by omega
  have O1:=hid (show ∀w,Calls Tryd.prog 11 #[.int .i64 1] w fun e w'=>RetZ 3 w (tenZ 0) e w' from fun w=>zN_any 1 (by omega) w)
  have zR0:ZL 32 (w.alloc (.cells #[.bool false,.slice none 0 0] 32)) w.heap.size false (.slice none 0 0):=ZL.made rfl
  have yb:Below w.heap.size w (w.alloc (.cells #[.bool false,.slice none 0 0] 32)):=below_alloc _ _
  go_enter Tryd.func66,Tryd.ntmps66
  go_wp2_with fail
  go_loopw [3,7] (fun s3 s7 wr=>s3=.int .i64 1∧s7=.int .i64 0∧wr=w.alloc (.cells #[.bool false,.slice none 0 0] 32)) (fun _ _ _=>0)
  case atStart=>exact ⟨rfl,rfl,rfl⟩
  case round=>
   obtain ⟨rfl,rfl,rfl⟩:=hrel
   go_wp2_with fail
   refine (O1.out _).mono ?_
   rintro e w1 ⟨ao,cap,rfl,hN,hb⟩
   have zR:=zR0.below hb
   have k0:=zR.1
   have k1:=zR.2.1
   have f0:=zR.2.2.1
   have f1:=zR.2.2.2.1
   have hs2:=zR.2.2.2.2
   go_wp2_with fail
   refine bodyPost_ret (by simp [results,Tryd.results66,go_sem,k0,k1];try rfl) rfl ?_
   exact ⟨_,_,rfl,(hN.setCell hs2 (by decide) _ _).setCell (hs2.setCell _ _) (by decide) _ _,((below_trans yb hb).setCell (by first|omega|(simp;done)|(simp;omega)) _).setCell (by first|omega|(simp;done)|(simp;omega)) _⟩
 |succ f ih=>
  intro n w hn hs
  by_cases h0:n=0
  ·subst h0;exact ih 0 w (by omega) (by omega)
  have IH:=hid ih
  clear ih
  have zR0:ZL 32 (w.alloc (.cells #[.bool false,.slice none 0 0] 32)) w.heap.size false (.slice none 0 0):=ZL.made rfl
  have yb:Below w.heap.size w (w.alloc (.cells #[.bool false,.slice none 0 0] 32)):=below_alloc _ _
  by_cases h8:n<8
  ·have ON:=hid (show ∀(P:Nat) w,P=10^n→Calls Tryd.prog 11 #[.int .i64 (P:Int)] w fun e w'=>RetZ 3 w (tenZ n) e w' from fun P w h=>by
    have h9:(10:Nat)^n≤10^8:=Nat.pow_le_pow_right (by omega) (by omega)
    have h7:(10:Nat)^8=100000000:=by decide
    subst h
    exact zN_any (10^n) (by omega) w)
   go_enter Tryd.func66,Tryd.ntmps66
   go_wp2_with fail
   go_loopw [3,7] (fun s3 s7 wr=> ∃i P:Nat,s3=.int .i64 (P:Int)∧s7=.int .i64 (i:Int)∧i≤n∧P=10^i∧wr=w.alloc (.cells #[.bool false,.slice none 0 0] 32)) (fun _ s7 _=>n-(intOf s7).toNat)
   case atStart=>exact ⟨0,1,rfl,rfl,by omega,rfl,rfl⟩
   case round=>
    obtain ⟨i,P,rfl,rfl,hi,hP,rfl⟩:=hrel
    by_cases hin:i<n
    ·have hPb:P≤100000000:=by
      have h9:(10:Nat)^i≤10^8:=Nat.pow_le_pow_right (by omega) (by omega)
      have h7:(10:Nat)^8=100000000:=by decide
      omega
     have HP:=hid (show P*10=10^(i+1) by rw [Nat.pow_succ,hP])
     clear hP
     go_wp2_with fail
     go_roundw
     case rel=>exact ⟨i+1,P*10,by go_num,by go_num,by omega,HP.out,by first|rfl|trivial⟩
     case measure=>simp [intOf];omega
    ·have hi2:i=n:=by omega
     subst hi2
     have ONP:=hid (fun w=>ON.out P w hP)
     clear hP ON
     go_wp2_with fail
     refine (ONP.out _).mono ?_
     rintro e w1 ⟨ao,cap,rfl,hN,hb⟩
     have zR:=zR0.below hb
     have k0:=zR.1
     have k1:=zR.2.1
     have f0:=zR.2.2.1
     have f1:=zR.2.2.2.1
     have hs2:=zR.2.2.2.2
     go_wp2_with fail
     refine bodyPost_ret (by simp [results,Tryd.results66,go_sem,k0,k1];try rfl) rfl ?_
     exact ⟨_,_,rfl,(hN.setCell hs2 (by decide) _ _).setCell (hs2.setCell _ _) (by decide) _ _,((below_trans yb hb).setCell (by first|omega|(simp;done)|(simp;omega)) _).setCell (by first|omega|(simp;done)|(simp;omega)) _⟩
  ·have h1: ¬(n:Int)<8:=by omega
   obtain ⟨q,hq⟩: ∃q,q=n/2:=⟨_,rfl⟩
   obtain ⟨r,hr⟩: ∃r,r=n-q:=⟨_,rfl⟩
   have e1:(n:Int)/2=(q:Int):=by omega
   have e2:(n:Int)-(q:Int)=(r:Int):=by omega
   have hq1:q≤f:=by omega
   have hr1:r≤f:=by omega
   have hq2:q≤6000000000:=by omega
   have hr2:r≤6000000000:=by omega
   have HS:=hid (show tenZ q*tenZ r=tenZ n by rw [tenZ_add];congr 1;omega)
   clear hq hr
   go_enter Tryd.func66,Tryd.ntmps66
   go_wp2_with fail
   refine (IH.out q _ hq1 hq2).mono ?_
   rintro e w1 ⟨ao,cap,rfl,hN,hb⟩
   go_wp2_with fail
   refine (IH.out r _ hr1 hr2).mono ?_
   rintro e w2 ⟨ao2,cap2,rfl,hN2,hb2⟩
   go_wp2_with fail
   refine (zmul_any _ _ _ _ _ _ _ (hN.below hb2) hN2 (Nat.le_trans (zl_len_ten4 q) (by omega)) (Nat.le_trans (zl_len_ten4 r) (by omega))).mono ?_
   rw [HS.out]
   rintro e w3 ⟨ao3,cap3,rfl,hN3,hb3⟩
   have zR:=((zR0.below hb).below hb2).below hb3
   have yb:=below_trans (below_trans yb hb) hb2
   have k0:=zR.1
   have k1:=zR.2.1
   have f0:=zR.2.2.1
   have f1:=zR.2.2.2.1
   have hs2:=zR.2.2.2.2
   go_wp2_with fail
   refine bodyPost_ret (by simp [results,Tryd.results66,go_sem,k0,k1];try rfl) rfl ?_
   exact ⟨_,_,rfl,(hN3.setCell hs2 (by decide) _ _).setCell (hs2.setCell _ _) (by decide) _ _,((below_trans yb hb3).setCell (by first|omega|(simp;done)|(simp;omega)) _).setCell (by first|omega|(simp;done)|(simp;omega)) _⟩
theorem zTenD (n:Nat) (w:World) (hn:n≤6000000000):Calls Tryd.prog 66 #[.int .i64 (n:Int)] w (RetZD 3 w (tenZ n)):=(zten_aux n n w (Nat.le_refl _) hn).mono fun _ _ h=>h.zd
end Go.Proofs.YtehhegbkahnhgaaDoor
