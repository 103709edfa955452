/- ExpoExps: what the proof leans on, part 14 (Dn2 Dn5). -/
import Derived.Shelf.Spec.TrailingZeros
import Derived.Deep.DeepCutAuto
import Derived.Deep.CutBlock
import Derived.Test.YtehhegbkahnhgaaGreatDoorKExpoExps2
import Derived.Test.YtehhegbkahnhgaaGreatDoorKExpoExps7
import Derived.Test.YtehhegbkahnhgaaGreatDoorKExpoExps8
import Derived.Test.YtehhegbkahnhgaaGreatDoorKExpoExps10
import Derived.Test.YtehhegbkahnhgaaGreatDoorKExpoExps12
set_option linter.unusedVariables false
set_option linter.unusedSimpArgs false
namespace Go.Ulp
open Go.RowKit
def VD (w:World) (D:Dy) (v:Value):Prop:= ∃am cm,v=.agg #[.bool (decide (D.1<0)),.slice am (limbs D.1.natAbs).length cm,.int .i64 D.2]∧Ns .u32 w am cm (limbs D.1.natAbs)
def RetVD (w:World) (D:Dy) (e:Ending) (w':World):Prop:= ∃v,e=.returned v∧VD w' D v∧Below w.heap.size w w'
theorem VD.below {w w':World} {D:Dy} {v:Value} (h:VD w D v) (hb:Below w.heap.size w w'):VD w' D v:=by
 obtain ⟨am,cm,h1,h2⟩:=h
 exact ⟨am,cm,h1,h2.below hb⟩
def Tab (g:Nat) (w:World):Prop:=Go.Proofs.TabAt g Go.Lib.deBruijn32tab w
theorem Tab.below {g:Nat} {w w':World} (h:Tab g w) (hb:Below w.heap.size w w'):Tab g w':=fun j hj=>
 (hb.cell (World.block_lt_of_cell? _ _ (h j hj))).trans (h j hj)
theorem ctz_tw (x:Nat) (h0:x≠0) (h1:x<2^32):Lib.ctz 32 x=tw x∧tw x<32:=by
 obtain ⟨m,hm,hk⟩:=Lib.ctzFrom_spec 32 x (by omega) h1
 have e:Lib.ctz 32 x=Lib.ctzFrom 32 x:=by simp [Lib.ctz,h0]
 have h2:=(tw_od_mul (2*m+1) (Lib.ctzFrom 32 x) (by omega)).1
 rw [Nat.mul_comm,←hm] at h2
 rw [e,h2]
 exact ⟨rfl,hk⟩
theorem tw_low (x r:Nat) (h0:x≠0) (h1:x<2^32):tw (x+2^32*r)=tw x:=by
 have hk:=(ctz_tw x h0 h1).2
 obtain ⟨e1,e2⟩:=od_tw x (by omega)
 obtain ⟨d,hd⟩: ∃d,32=tw x+(d+1):=⟨31-tw x,by omega⟩
 have e3:x+2^32*r=(od x+2*(2^d*r))*2^tw x:=by
  have h4:2^32*r=2*(2^d*r)*2^tw x:=by
   rw [hd,Nat.pow_add,Nat.pow_succ]
   simp only [Nat.mul_assoc,Nat.mul_comm,Nat.mul_left_comm]
  rw [Nat.add_mul,e1,h4]
 rw [e3]
 exact (tw_od_mul _ _ (by omega)).1
theorem val_zeros_take (B:Nat) (L:List Nat) (i:Nat) (h: ∀j,j<i→L.getD j 0=0):val B (L.take i)=0:=by
 refine val_zeros B _ (fun d hd=>?_)
 obtain ⟨j,hj,rfl⟩:=List.mem_iff_getElem.1 hd
 rw [List.length_take] at hj
 have h1:=h j (by omega)
 rw [getD_in _ _ (by omega)] at h1
 rw [List.getElem_take];exact h1
theorem tw_limbs (M i x:Nat) (hi:i<(limbs M).length) (hz: ∀j,j<i→(limbs M).getD j 0=0) (hx:(limbs M).getD i 0=x) (hx0:x≠0):tw M=32*i+tw x:=by
 have lL:=limbs_lim M
 have hx1:x<2^32:=by rw [←hx];exact lL.getD (by omega) i
 have h1:=val_take_drop 4294967296 (limbs M) i (by omega)
 have h2:=val_drop 4294967296 (limbs M) i hi
 have h3:=lval_limbs M
 unfold lval at h3
 rw [h3,val_zeros_take _ _ _ hz,h2,hx,Nat.zero_add] at h1
 have e:M=(x+2^32*val 4294967296 ((limbs M).drop (i+1)))*2^(32*i):=by
  conv=>lhs;rw [h1]
  rw [Nat.mul_comm,Nat.pow_mul]
 rw [e,(tw_mul _ _ (by omega)).1,tw_low x _ hx0 hx1];omega
theorem nrm_sg (neg:Bool) (M:Nat) (e:Int) (h:0<M):nrm (sg neg M) e=(sg neg (od M),e+tw M):=by
 have hx:sg neg (M:Int)≠0:=by unfold sg;cases neg<;>simp<;>omega
 have ha:(sg neg (M:Int)).natAbs=M:=by rw [sg_abs,Int.natAbs_natCast]
 have h1:=nrm_abs (sg neg (M:Int)) e hx
 rw [ha] at h1
 obtain ⟨k,h2,h3⟩:=nrm_rep (sg neg (M:Int)) e
 refine Prod.ext ?_ ?_
 ·have hp:=pw_pos k
  have key: ∀y:Int,y.natAbs=od M→sg neg (M:Int)=y*pw k→y=sg neg (od M:Int):=by
   intro y hy1 hy2
   have hod:=od_pos M h
   rcases Int.lt_trichotomy y 0 with hs|hs|hs
   ·have h5:y*pw k<0:=Int.mul_neg_of_neg_of_pos hs hp
    rw [←hy2] at h5
    cases neg
    ·exact absurd h5 (show ¬(M:Int)<0 by omega)
    ·show y= -(od M:Int);omega
   ·subst hs;simp at hy1;omega
   ·have h5:0<y*pw k:=Int.mul_pos hs hp
    rw [←hy2] at h5
    cases neg
    ·show y=(od M:Int);omega
    ·exact absurd h5 (show ¬0< -(M:Int) by omega)
  exact key _ h1 h2
 ·show (nrm (sg neg (M:Int)) e).2=_
  unfold nrm;rw [if_neg hx,ha]
theorem nrm_sg_zero (neg:Bool) (e:Int):nrm (sg neg ((0:Nat):Int)) e=(0,0):=by
 have:sg neg ((0:Nat):Int)=0:=by unfold sg;cases neg<;>rfl
 rw [this];rfl
theorem sg_od_lt (neg:Bool) (M:Nat) (h:0<M):decide (sg neg (od M:Int)<0)=neg∧(sg neg (od M:Int)).natAbs=od M:=by
 have:=od_pos M h
 refine ⟨?_,by rw [sg_abs,Int.natAbs_natCast]⟩
 cases neg
 ·exact decide_eq_false (by show ¬(od M:Int)<0;omega)
 ·exact decide_eq_true (by show -(od M:Int)<0;omega)
end Go.Ulp
namespace Go.Proofs.YtehhegbkahnhgaaGreatDoor
open Go.RowKit Go.Ulp
set_option maxHeartbeats 1000000
set_option maxRecDepth 100000
theorem tz32_any (x:Nat) (hx:x<4294967296) (hx0:x≠0) (w:World) (hT:Tab 0 w):
 Calls Tryz.prog 106 #[.int .u32 (x:Int)] w fun e w'=>e=.returned (.int .i64 (tw x:Int))∧w=w':=by
 obtain ⟨hlow,hk⟩:=Lib.lowest_bit 32 x hx0 hx
 obtain ⟨hi,htab⟩:=Lib.deBruijn32_at _ hk
 have hcell:=hT _ hi
 rw [htab] at hcell
 have key:=tz32_key x _ hx hx0 hlow
 have hxb:((x:Int)==0)=false:=beq_eq_false_iff_ne.2 (by omega)
 have HE:=hid (ctz_tw x hx0 hx).1
 obtain ⟨c,hc⟩: ∃c,c=Lib.ctz 32 x:=⟨_,rfl⟩
 rw [←hc] at hcell key hi HE hk
 obtain ⟨idx,hidx⟩: ∃i,i=2^c*125613361%4294967296/134217728:=⟨_,rfl⟩
 rw [←hidx] at hi hcell key
 have HI:=hid hidx
 clear hlow htab hc hidx hT
 go_enter Tryz.func106,Tryz.ntmps106
 go_wp2_with (simp only [key])
 go_ret
 exact ⟨ret_int (by rw [HE.out]),rfl⟩
theorem norm_zero (neg:Bool) (a0:Option Addr) (c0:Nat) (e:Int) (w:World):
 Calls Tryz.prog 65 #[.bool neg,.slice a0 (limbs 0).length c0,.int .i64 e] w (RetVD w (nrm (sg neg ((0:Nat):Int)) e)):=by
 rw [nrm_sg_zero,limbs_zero]
 go_enter Tryz.func65,Tryz.ntmps65
 go_wp2_with fail
 refine bodyPost_ret (by simp [results,Tryz.results65,go_sem];try rfl) rfl ?_
 exact ⟨_,rfl,⟨none,0,rfl,Ns.nil⟩,below_alloc _ _⟩
theorem normD_any (neg:Bool) (a0:Option Addr) (c0 M:Nat) (e:Int) (w:World) (hN:Ns .u32 w a0 c0 (limbs M)) (hm:(limbs M).length≤4294967296) (he: -1099511627776≤e∧e≤1099511627776) (hT:Tab 0 w):
 Calls Tryz.prog 65 #[.bool neg,.slice a0 (limbs M).length c0,.int .i64 e] w (RetVD w (nrm (sg neg (M:Int)) e)):=by
 by_cases h0:M=0
 ·subst h0;exact norm_zero neg a0 c0 e w
 have hpos:0<M:=by omega
 have hl0:0<(limbs M).length:=(digs_len_pos 4294967296 (by omega) M).2 hpos
 have hlb:(((limbs M).length:Int)==0)=false:=beq_eq_false_iff_ne.2 (by omega)
 have hlast:(limbs M).getD ((limbs M).length-1) 0≠0:=by
  rcases (trim_iff (limbs M)).1 (limbs_trim M) with h|h
  ·omega
  ·exact h
 have LL:=hid (limbs_lim M)
 have TW:=hid (tw_limbs M)
 obtain ⟨b0,o0,rfl,hc0⟩:=hN.2.2 hl0
 have HN:=hid hN
 have HT:=hid hT
 have yb0:=below_alloc w (.cells #[.bool false,.slice none 0 0,.int .i64 0] 38)
 have zR0:QL 38 (w.alloc (.cells #[.bool false,.slice none 0 0,.int .i64 0] 38)) w.heap.size false (.slice none 0 0) 0:=QL.made rfl
 have hcap:=hN.1
 have hcap2:=hN.2.1
 unfold maxLen at hcap2
 have RR:=hid (fun w h (hk:tw M≤4294967296000)=>right_any (some ⟨b0,o0,none⟩) c0 M (tw M) w h (by omega) hk)
 have TZ:=hid (fun x h1 h2 w h=>tz32_any x h1 h2 w h)
 have ND:=hid (nrm_sg neg M e hpos)
 have SG:=hid (sg_od_lt neg M hpos)
 obtain ⟨n,hn⟩: ∃n,n=(limbs M).length:=⟨_,rfl⟩
 have HNL:=hid hn
 have hc:=hid (fun i (h:i<n)=>((yb0.cell (p:=⟨b0,o0+i,none⟩) (World.block_lt_of_cell? _ _ (hc0 i (by omega)))).trans (hc0 i (by omega))))
 have HLA:=hid hlast
 rw [←hn] at hlb hcap hm hl0 RR ⊢
 clear hN hT hn h0 hpos hlast hc0
 go_enter Tryz.func65,Tryz.ntmps65
 go_upto_block 0 with fail
 go_cut [7] (fun s7 wx=> ∃i:Nat,s7=.int .i64 (32*(i:Int))∧i<n∧(limbs M).getD i 0≠0∧(∀j,j<i→(limbs M).getD j 0=0)∧wx=w.alloc (.cells #[.bool false,.slice none 0 0,.int .i64 0] 38))
 case first=>
  go_wp2_with fail
  go_loop [7] (fun s7=> ∃i:Nat,s7=.int .i64 (32*(i:Int))∧i<n∧(∀j,j<i→(limbs M).getD j 0=0)) (fun s7=>(32*n-(intOf s7).toNat))
  case atStart=>exact ⟨0,rfl,hl0,fun j hj=>by omega⟩
  case round=>
   obtain ⟨i,rfl,hi,hz⟩:=hrel
   have hcell:=hc.out i hi
   unfold lb at hcell
   obtain ⟨x,hx⟩: ∃x,x=(limbs M).getD i 0:=⟨_,rfl⟩
   rw [←hx] at hcell
   have e1:32*(i:Int)/32=(i:Int):=by omega
   have HX:=hid hx
   have HZ:=hid hz
   clear hx hz
   by_cases hx0:x=0
   ·subst hx0
    have hin:i+1<n:=by
     rcases Nat.lt_or_ge (i+1) n with h|h
     ·exact h
     ·have:i=n-1:=by omega
      have h9:=HX.out
      rw [this,HNL.out] at h9
      exact absurd h9.symm HLA.out
    go_wp2_with fail
    go_round
    case rel=>exact ⟨i+1,by rw [show 32*(i:Int)+32=32*((i+1:Nat):Int) by omega],hin,fun j hj=>by
     by_cases hji:j=i
     ·rw [hji,←HX.out]
     ·exact HZ.out j (by omega)⟩
    case measure=>simp [intOf];omega
   ·have hxb:((x:Int)==0)=false:=beq_eq_false_iff_ne.2 (by omega)
    have HX0:=hid hx0
    clear hx0
    go_wp2_with fail
    go_meet
    exact ⟨i,rfl,hi,by rw [←HX.out];exact HX0.out,HZ.out,rfl⟩
 case rest=>
  obtain ⟨i,rfl,hi,hx0,hz,rfl⟩:=hcut
  have hcell:=hc.out i hi
  unfold lb at hcell
  obtain ⟨x,hx⟩: ∃x,x=(limbs M).getD i 0:=⟨_,rfl⟩
  rw [←hx] at hcell hx0
  have hx1:x<4294967296:=by rw [hx];exact LL.out.getD (by omega) i
  have e1:32*(i:Int)/32=(i:Int):=by omega
  have htw:tw M=32*i+tw x:=TW.out i x (by rw [←HNL.out];exact hi) hz hx.symm hx0
  have ht32:=(ctz_tw x hx0 hx1).2
  have TZx:=hid (fun w h=>TZ.out x hx1 hx0 w h)
  obtain ⟨tM,htM⟩: ∃t,t=tw M:=⟨_,rfl⟩
  obtain ⟨tx,htx⟩: ∃t,t=tw x:=⟨_,rfl⟩
  rw [←htM] at RR ND htw
  rw [←htx] at TZx htw ht32
  have e2:32*(i:Int)+(tx:Int)=(tM:Int):=by omega
  have hMo:M/2^tM=od M:=by rw [htM];rfl
  have RRM:=hid (fun w h=>RR.out w h (by omega))
  rw [hMo] at RRM
  have hcapM:=hid hcap
  clear hx0 hz hx TW htM htx hMo RR TZ htw
  go_upto_region 8 with (first
   |(go_at_call 106;(with_reducible refine (TZx.out _ (HT.out.below yb0)).mono ?_);rintro en w1 ⟨rfl,rfl⟩)
   |(go_at_call 107;(with_reducible refine (RRM.out _ (HN.out.below yb0)).mono ?_);rintro en w2 ⟨a2,rfl,hN2,hb2⟩))
  have zR:=zR0.below hb2
  have yb2:=below_trans yb0 hb2
  obtain ⟨⟨k0,k1,f0,f1,hs2⟩,k2,f2⟩:=id zR
  go_wp2_with fail
  refine bodyPost_ret (by simp [results,Tryz.results65,go_sem,k0,k1,k2];try rfl) rfl ?_
  rw [ND.out]
  refine ⟨_,rfl,⟨a2,(limbs (od M)).length,?_,?_⟩,((yb2.setCell (by first|omega|(simp;done)|(simp;omega)) _).setCell (by first|omega|(simp;done)|(simp;omega)) _).setCell (by first|omega|(simp;done)|(simp;omega)) _⟩
  ·simp only [SG.out.1,SG.out.2]
  ·simp only [SG.out.2]
   exact hN2.set3 zR (by intro x h;cases h) _ _ _
end Go.Proofs.YtehhegbkahnhgaaGreatDoor
namespace Go.Ulp
open Go.RowKit
theorem or_hidden (f:Int) (h0:0≤f) (h1:f<4503599627370496):bits .or .u64 f 4503599627370496=f+4503599627370496:=by
 rw [bits_comm_or f _ h0 (by omega) (by omega) (by omega),or_join52 4503599627370496 f (by omega) (by omega) h0 (by omega) (by omega) h1];omega
end Go.Ulp
namespace Go.Proofs.YtehhegbkahnhgaaGreatDoor
open Go.RowKit Go.Ulp
set_option maxHeartbeats 1000000
set_option maxRecDepth 100000
theorem value_any (x:Int) (h0:0≤x) (h1:x<18446744073709551616) (w:World) (hT:Tab 0 w):
 Calls Tryz.prog 20 #[.int .u64 x] w (RetVD w (fv x)):=by
 have PA:=hid (fun w=>parts_any x h0 h1 w)
 have hfb:=fracOf_bd x
 have heb:=expOf_bd x
 have hmb:=mantOf_bd x
 obtain ⟨m,hm⟩:=Int.eq_ofNat_of_zero_le hmb.1
 have OF:=hid (fun w=>natOf_any m (by omega) w)
 have hml:(limbs m).length≤4294967296:=by
  have:(limbs m).length≤2:=(digs_len_le 4294967296 (by omega) m 2).2 (by omega)
  omega
 have hdb:=dexp_bd x
 have NO:=hid (show ∀a c w,Ns .u32 w a c (limbs m)→Tab 0 w→Calls Tryz.prog 65 #[.bool (negB x),.slice a (limbs m).length c,.int .i64 (max (expOf x) 1-1075)] w (RetVD w (fv x)) from fun a c w k t=>by
  have:=normD_any (negB x) a c m (dexp x) w k hml (by omega) t
  unfold fv;rw [hm];exact this)
 have yb0:=below_alloc w (.cells #[.bool false,.slice none 0 0,.int .i64 0] 38)
 have zR0:QL 38 (w.alloc (.cells #[.bool false,.slice none 0 0,.int .i64 0] 38)) w.heap.size false (.slice none 0 0) 0:=QL.made rfl
 have HT:=hid hT
 by_cases hp:0<expOf x
 ·have hor:=or_hidden (fracOf x) hfb.1 hfb.2
  have hmv:fracOf x+4503599627370496=(m:Int):=by
   have:=hm;unfold mantOf at this;rw [if_pos hp] at this;exact this
  generalize fracOf x=fr at *
  generalize negB x=ng at *
  generalize expOf x=ex at *
  generalize fv x=D at *
  clear hT hm hmb hml hdb
  go_enter Tryz.func20,Tryz.ntmps20
  go_wp2_with (first
   |(go_at_call 62;(with_reducible refine (PA.out _).mono ?_);rintro en w1 ⟨rfl,rfl⟩)
   |(go_at_call 66;(with_reducible refine (OF.out _).mono ?_);rintro en w2 ⟨a2,rfl,hN2,hb2⟩;have yb2:=below_trans yb0 hb2;have zR2:=zR0.below hb2)
   |(go_at_call 65;(with_reducible refine (NO.out _ _ _ hN2 (HT.out.below yb2)).mono ?_);rintro en w3 ⟨v3,rfl,⟨a3,c3,rfl,hN3⟩,hb3⟩;have yb3:=below_trans yb2 hb3;have zR3:=zR2.below hb3;obtain ⟨⟨k0,k1,f0,f1,hs2⟩,k2,f2⟩:=id zR3))
  refine bodyPost_ret (by simp [results,Tryz.results20,go_sem,k0,k1,k2];try rfl) rfl ?_
  exact ⟨_,rfl,⟨a3,c3,rfl,hN3.set3 zR3 (by intro x h;cases h) _ _ _⟩,((yb3.setCell (by first|omega|(simp;done)|(simp;omega)) _).setCell (by first|omega|(simp;done)|(simp;omega)) _).setCell (by first|omega|(simp;done)|(simp;omega)) _⟩
 ·have hmv:fracOf x=(m:Int):=by
   have:=hm;unfold mantOf at this;rw [if_neg hp] at this;exact this
  generalize fracOf x=fr at *
  generalize negB x=ng at *
  generalize expOf x=ex at *
  generalize fv x=D at *
  clear hT hm hmb hml hdb
  subst hmv
  go_enter Tryz.func20,Tryz.ntmps20
  go_wp2_with (first
   |(go_at_call 62;(with_reducible refine (PA.out _).mono ?_);rintro en w1 ⟨rfl,rfl⟩)
   |(go_at_call 66;(with_reducible refine (OF.out _).mono ?_);rintro en w2 ⟨a2,rfl,hN2,hb2⟩;have yb2:=below_trans yb0 hb2;have zR2:=zR0.below hb2)
   |(go_at_call 65;(with_reducible refine (NO.out _ _ _ hN2 (HT.out.below yb2)).mono ?_);rintro en w3 ⟨v3,rfl,⟨a3,c3,rfl,hN3⟩,hb3⟩;have yb3:=below_trans yb2 hb3;have zR3:=zR2.below hb3;obtain ⟨⟨k0,k1,f0,f1,hs2⟩,k2,f2⟩:=id zR3))
  refine bodyPost_ret (by simp [results,Tryz.results20,go_sem,k0,k1,k2];try rfl) rfl ?_
  exact ⟨_,rfl,⟨a3,c3,rfl,hN3.set3 zR3 (by intro x h;cases h) _ _ _⟩,((yb3.setCell (by first|omega|(simp;done)|(simp;omega)) _).setCell (by first|omega|(simp;done)|(simp;omega)) _).setCell (by first|omega|(simp;done)|(simp;omega)) _⟩
end Go.Proofs.YtehhegbkahnhgaaGreatDoor
namespace Go.Ulp
open Go.RowKit
theorem negD_abs (D:Dy):(negD D).1.natAbs=D.1.natAbs:=by unfold negD;exact Int.natAbs_neg _
theorem dy_len (D:Dy):(limbs D.1.natAbs).length=0↔D.1=0:=by
 rw [List.length_eq_zero_iff,limbs_nil];omega
def Fact.vd (D:Dy):Fact:=⟨fun v w=>VD w D v,fun _ _ _ h hb=>h.below hb⟩
def Fact.li (m:Nat):Fact:=⟨fun v w=> ∃ao cap,v=.slice ao (limbs m).length cap∧Ns .u32 w ao cap (limbs m),fun _ _ _ h hb=>by
 obtain ⟨ao,cap,h1,h2⟩:=h
 exact ⟨ao,cap,h1,h2.below hb⟩⟩
theorem Ns.setBool {w:World} {ao:Option Addr} {cap:Nat} {L:List Nat} {g:Nat} {n:Bool} (h:Ns .u32 w ao cap L) (hc:w.cell? ⟨g,0,none⟩=some (.bool n)) (u:Value):Ns .u32 (w.setCell ⟨g,0,none⟩ u) ao cap L:=
 Ns.setCell_kind h ⟨g,0,none⟩ u (.bool n) hc (by intro x e;cases e)
theorem QL.farD {t:TypeId} {w:World} {g:Nat} {n:Bool} {v:Value} {k:Int} (h:QL t w g n v k) (a:Addr) (u:Value) (hne:g≠a.block):QL t (w.setCell a u) g n v k:=by
 refine ⟨h.1.far a u hne,?_,?_⟩
 ·rw [World.cell?_setCell_other (h:=fun e=>hne (by rw [e]))];exact h.2.1
 ·rw [frozen_setCell];exact h.2.2
theorem QL.set0D {t:TypeId} {w:World} {g:Nat} {n:Bool} {v:Value} {k:Int} (h:QL t w g n v k) (u:Bool):QL t (w.setCell ⟨g,0,none⟩ (.bool u)) g u v k:=
 ⟨h.1.set0 u,(cell_set_ne (by omega)).trans h.2.1,(frozen_setCell _ _ _ _).trans h.2.2⟩
theorem QL.set1D {t:TypeId} {w:World} {g:Nat} {n:Bool} {v:Value} {k:Int} (h:QL t w g n v k) (u:Value):QL t (w.setCell ⟨g,1,none⟩ u) g n u k:=
 ⟨h.1.set1 u,(cell_set_ne (by omega)).trans h.2.1,(frozen_setCell _ _ _ _).trans h.2.2⟩
theorem Ns.setSlice {w:World} {ao:Option Addr} {cap:Nat} {L:List Nat} {p:Addr} {a:Option Addr} {l c:Nat} (h:Ns .u32 w ao cap L) (hc:w.cell? p=some (.slice a l c)) (u:Value):Ns .u32 (w.setCell p u) ao cap L:=
 Ns.setCell_kind h p u (.slice a l c) hc (by intro x e;cases e)
end Go.Ulp
namespace Go.Proofs.YtehhegbkahnhgaaGreatDoor
open Go.RowKit Go.Ulp
set_option maxHeartbeats 1000000
set_option maxRecDepth 100000
theorem opp_any (v:Value) (D:Dy) (w:World) (hv:VD w D v) (hl:(limbs D.1.natAbs).length≤4294967296):
 Calls Tryz.prog 51 #[v] w (RetVD w (negD D)):=by
 obtain ⟨am,cm,rfl,hN⟩:=hv
 have H:=hid hN
 have CL:=hid (fun w h=>clone_any am cm D.1.natAbs w h (by omega))
 obtain ⟨ng,hng⟩: ∃b,b=decide (D.1<0):=⟨_,rfl⟩
 have HR:=hid (show ∀am cm,Value.agg #[.bool (!ng&&decide (0<(limbs D.1.natAbs).length)),.slice am (limbs D.1.natAbs).length cm,.int .i64 D.2]=.agg #[.bool (decide ((negD D).1<0)),.slice am (limbs (negD D).1.natAbs).length cm,.int .i64 (negD D).2] from fun am cm=>by
  rw [negD_abs]
  have:(!ng&&decide (0<(limbs D.1.natAbs).length))=decide ((negD D).1<0):=by
   have h1:=dy_len D
   rw [Bool.eq_iff_iff,hng]
   simp only [Bool.and_eq_true,Bool.not_eq_true',decide_eq_true_eq,decide_eq_false_iff_not]
   show _↔ -D.1<0
   omega
  rw [this];rfl)
 have HA:=hid (negD_abs D)
 rw [←hng]
 have hcap:=hN.1
 have hcap2:=hN.2.1
 unfold maxLen at hcap2
 obtain ⟨M,hM⟩: ∃M,M=D.1.natAbs:=⟨_,rfl⟩
 rw [←hM] at H CL HR HA hcap hl ⊢
 generalize D.2=e at *
 clear hN hng hM
 have zA0:QL 38 ((w.alloc (.cells #[.bool ng,.slice am (limbs M).length cm,.int .i64 e] 38)).alloc (.cells #[.bool false,.slice none 0 0,.int .i64 0] 38)) w.heap.size ng (.slice am (limbs M).length cm) e:=(QL.made rfl).alloc _
 have zR0:QL 38 ((w.alloc (.cells #[.bool ng,.slice am (limbs M).length cm,.int .i64 e] 38)).alloc (.cells #[.bool false,.slice none 0 0,.int .i64 0] 38)) (w.heap.size+1) false (.slice none 0 0) 0:=QL.made (by first|omega|(simp;done)|(simp;omega))
 have yb0:Below w.heap.size w ((w.alloc (.cells #[.bool ng,.slice am (limbs M).length cm,.int .i64 e] 38)).alloc (.cells #[.bool false,.slice none 0 0,.int .i64 0] 38)):=by (repeat' first|(with_reducible first|assumption|apply bR|apply bA|apply bN|apply bD|apply bL|apply bS)|refine bT ?_ (by assumption)|go_size)
 go_enter Tryz.func51,Tryz.ntmps51
 go_upto_region 1 with fail
 obtain ⟨q,hq⟩: ∃b,b=(!ng&&decide (0<(limbs M).length)):=⟨_,rfl⟩
 rw [←hq] at HR
 have HQ:=hid hq
 clear hq
 go_cut [] (fun wx=>QL 38 wx w.heap.size q (.slice am (limbs M).length cm) e∧QL 38 wx (w.heap.size+1) false (.slice none 0 0) 0∧Below w.heap.size w wx∧Ns .u32 wx am cm (limbs M))
 case first=>
  have hN0:=H.out.below yb0
  obtain ⟨W1,hW1⟩: ∃W,W=(w.alloc (.cells #[.bool ng,.slice am (limbs M).length cm,.int .i64 e] 38)).alloc (.cells #[.bool false,.slice none 0 0,.int .i64 0] 38):=⟨_,rfl⟩
  rw [←hW1] at zA0 zR0 yb0 hN0 ⊢
  clear hW1
  obtain ⟨⟨j0,j1,f0,f1,s1⟩,j2,f2⟩:=id zA0
  cases ng
  ·have H5:=hid (show q=decide (0<(limbs M).length) by rw [HQ.out];rfl)
   go_wp2_with fail
   go_meet
   rw [H5.out]
   exact ⟨zA0.set0D _,zR0.farD _ _ (by first|omega|(simp;done)|(simp;omega)),yb0.setCell (by first|omega|(simp;done)|(simp;omega)) _,hN0.setBool j0 _⟩
  ·have H5:=hid (show q=false by rw [HQ.out];rfl)
   go_wp2_with fail
   go_meet
   rw [H5.out]
   exact ⟨zA0.set0D _,zR0.farD _ _ (by first|omega|(simp;done)|(simp;omega)),yb0.setCell (by first|omega|(simp;done)|(simp;omega)) _,hN0.setBool j0 _⟩
 case rest=>
  obtain ⟨zA,zR,yb,hN1⟩:=hcut
  clear zA0 zR0 yb0
  obtain ⟨⟨j0,j1,f0,f1,s1⟩,j2,f2⟩:=id zA
  go_upto_region 3 with (go_at_call 95;(with_reducible refine (CL.out _ hN1).mono ?_);rintro en w3 ⟨a3,c3,rfl,hN3,hb3⟩;have zA3:=zA.below hb3;obtain ⟨⟨i0,i1,g0,g1,s3⟩,i2,g2⟩:=id zA3)
  have zR3:=zR.below hb3
  have yb3:=below_trans yb hb3
  obtain ⟨⟨k0,k1,h0,h1,s4⟩,k2,h2⟩:=id zR3
  have zR4:=zR3.farD ⟨w.heap.size,1,none⟩ (.slice a3 (limbs M).length c3) (by first|omega|(simp;done)|(simp;omega))
  have hN4:=hN3.setSlice i1 (.slice a3 (limbs M).length c3)
  have yb4:=yb3.setCell (p:=⟨w.heap.size,1,none⟩) (by first|omega|(simp;done)|(simp;omega)) (.slice a3 (limbs M).length c3)
  go_wp2_with fail
  refine bodyPost_ret (by simp [results,Tryz.results51,go_sem,k0,k1,k2];try rfl) rfl ?_
  refine ⟨_,rfl,⟨a3,c3,HR.out _ _,?_⟩,((yb4.setCell (by first|omega|(simp;done)|(simp;omega)) _).setCell (by first|omega|(simp;done)|(simp;omega)) _).setCell (by first|omega|(simp;done)|(simp;omega)) _⟩
  rw [HA.out]
  exact hN4.set3 zR4 (by intro x h;cases h) _ _ _
end Go.Proofs.YtehhegbkahnhgaaGreatDoor
namespace Go.Ulp
open Go.RowKit
def RetAl (w:World) (A B:Nat) (m:Int) (e:Ending) (w':World):Prop:=
 ∃ao cap bo cbp,e=.returned (.tuple #[.slice ao (limbs A).length cap,.slice bo (limbs B).length cbp,.int .i64 m])∧Ns .u32 w' ao cap (limbs A)∧Ns .u32 w' bo cbp (limbs B)∧Below w.heap.size w w'
def alN (D:Dy) (m:Int):Nat:=D.1.natAbs*2^(D.2-m).toNat
theorem sg_alN (D:Dy) (m:Int):sg (decide (D.1<0)) (alN D m:Int)=sc D.1 D.2 m:=by
 unfold alN sc
 rw [Int.natCast_mul,←pw_nat]
 rcases Int.lt_or_le D.1 0 with h|h
 ·have e:(D.1.natAbs:Int)= -D.1:=by omega
  rw [decide_eq_true h,e]
  show -(-D.1*_)=_
  rw [Int.neg_mul,Int.neg_neg]
 ·have e:(D.1.natAbs:Int)=D.1:=by omega
  rw [decide_eq_false (by omega),e];rfl
theorem add_same (D E:Dy) (m:Int) (n:Bool) (h0:decide (D.1<0)=n) (h1:decide (E.1<0)=n):sg n ((alN D m+alN E m:Nat):Int)=sc D.1 D.2 m+sc E.1 E.2 m:=by
 rw [←sg_alN,←sg_alN,h0,h1]
 unfold sg;cases n<;>simp<;>omega
theorem add_ge (D E:Dy) (m:Int) (h:decide (D.1<0)≠decide (E.1<0)) (hg:alN E m≤alN D m):sg (decide (D.1<0)) ((alN D m-alN E m:Nat):Int)=sc D.1 D.2 m+sc E.1 E.2 m:=by
 rw [←sg_alN,←sg_alN]
 generalize decide (D.1<0)=n0 at *
 generalize decide (E.1<0)=n1 at *
 unfold sg
 cases n0<;>cases n1
 ·exact absurd rfl h
 ·simp;omega
 ·simp;omega
 ·exact absurd rfl h
theorem add_lt (D E:Dy) (m:Int) (h:decide (D.1<0)≠decide (E.1<0)) (hg:alN D m≤alN E m):sg (decide (E.1<0)) ((alN E m-alN D m:Nat):Int)=sc D.1 D.2 m+sc E.1 E.2 m:=by
 rw [add_ge E D m h.symm hg];omega
theorem addD_left (D E:Dy) (h:D.1=0):addD D E=nrm E.1 E.2:=by
 unfold addD
 rw [h,sc_zero,Int.zero_add]
 unfold sc
 rw [nrm_scale];congr 1;omega
theorem addD_right (D E:Dy) (h:E.1=0):addD D E=nrm D.1 D.2:=by
 unfold addD
 rw [h,sc_zero,Int.add_zero]
 unfold sc
 rw [nrm_scale];congr 1;omega
theorem sg_self (x:Int):sg (decide (x<0)) (x.natAbs:Int)=x:=by
 rcases Int.lt_or_le x 0 with h|h
 ·rw [decide_eq_true h];show -(x.natAbs:Int)=x;omega
 ·rw [decide_eq_false (by omega)];show (x.natAbs:Int)=x;omega
theorem limbs_len_add2 (m n k:Nat) (h1:(limbs m).length≤k) (h2:(limbs n).length≤k):(limbs (m+n)).length≤k+1:=by
 have e1:=(limbs_len_iff m k).1 h1
 have e2:=(limbs_len_iff n k).1 h2
 refine (limbs_len_iff _ _).2 ?_
 rw [Nat.pow_succ];omega
theorem alN_len (D:Dy) (m:Int) (k j:Nat) (hl:(limbs D.1.natAbs).length≤k) (hd:D.2-m<32*((j:Int)+1)):(limbs (alN D m)).length≤k+(j+1):=by
 unfold alN
 have:=limbs_len_shl D.1.natAbs (D.2-m).toNat j (by omega)
 omega
end Go.Ulp
namespace Go.Proofs.YtehhegbkahnhgaaGreatDoor
open Go.RowKit Go.Ulp
set_option maxHeartbeats 1000000
set_option maxRecDepth 100000
theorem align_any (v u:Value) (D E:Dy) (w:World) (hv:VD w D v) (hu:VD w E u) (hl:(limbs D.1.natAbs).length≤1100000000) (hl':(limbs E.1.natAbs).length≤1100000000) (he: -35000000000≤D.2∧D.2≤35000000000) (he': -35000000000≤E.2∧E.2≤35000000000):
 Calls Tryz.prog 72 #[v,u] w (RetAl w (alN D (min D.2 E.2)) (alN E (min D.2 E.2)) (min D.2 E.2)):=by
 obtain ⟨am,cm,rfl,hN⟩:=hv
 obtain ⟨bm,dm,rfl,hM⟩:=hu
 have HN:=hid hN
 have HM:=hid hM
 obtain ⟨m,hm⟩: ∃m,m=min D.2 E.2:=⟨_,rfl⟩
 have hmb: -35000000000≤m∧m≤D.2∧m≤E.2:=by omega
 have LA:=hid (show ∀w,Ns .u32 w am cm (limbs D.1.natAbs)→Calls Tryz.prog 69 #[.slice am (limbs D.1.natAbs).length cm,.int .i64 (D.2-m)] w fun e w'=>RetN w (alN D m) e w' from fun w h=>by
  have:=leftN_any am cm D.1.natAbs (D.2-m).toNat w h (by omega) (by omega)
  rwa [show (((D.2-m).toNat:Nat):Int)=D.2-m by omega] at this)
 have LB:=hid (show ∀w,Ns .u32 w bm dm (limbs E.1.natAbs)→Calls Tryz.prog 69 #[.slice bm (limbs E.1.natAbs).length dm,.int .i64 (E.2-m)] w fun e w'=>RetN w (alN E m) e w' from fun w h=>by
  have:=leftN_any bm dm E.1.natAbs (E.2-m).toNat w h (by omega) (by omega)
  rwa [show (((E.2-m).toNat:Nat):Int)=E.2-m by omega] at this)
 have HM2:=hid hm.symm
 rw [←hm]
 generalize alN D m=A at *
 generalize alN E m=B at *
 generalize D.1.natAbs=M0 at *
 generalize E.1.natAbs=M1 at *
 generalize decide (D.1<0)=n0 at *
 generalize decide (E.1<0)=n1 at *
 generalize D.2=e0 at *
 generalize E.2=e1 at *
 have hw1:IntKind.i64.wrap (e0-m)=e0-m:=IntWalk.i64_in _ (by omega)
 have hw2:IntKind.i64.wrap (e1-m)=e1-m:=IntWalk.i64_in _ (by omega)
 clear hN hM hm
 have zA:QL 38 ((w.alloc (.cells #[.bool n0,.slice am (limbs M0).length cm,.int .i64 e0] 38)).alloc (.cells #[.bool n1,.slice bm (limbs M1).length dm,.int .i64 e1] 38)) w.heap.size n0 (.slice am (limbs M0).length cm) e0:=(QL.made rfl).alloc _
 have zB:QL 38 ((w.alloc (.cells #[.bool n0,.slice am (limbs M0).length cm,.int .i64 e0] 38)).alloc (.cells #[.bool n1,.slice bm (limbs M1).length dm,.int .i64 e1] 38)) (w.heap.size+1) n1 (.slice bm (limbs M1).length dm) e1:=QL.made (by first|omega|(simp;done)|(simp;omega))
 have yb0:Below w.heap.size w ((w.alloc (.cells #[.bool n0,.slice am (limbs M0).length cm,.int .i64 e0] 38)).alloc (.cells #[.bool n1,.slice bm (limbs M1).length dm,.int .i64 e1] 38)):=by (repeat' first|(with_reducible first|assumption|apply bR|apply bA|apply bN|apply bD|apply bL|apply bS)|refine bT ?_ (by assumption)|go_size)
 go_enter Tryz.func72,Tryz.ntmps72
 go_upto_region 2 with fail
 rw [HM2.out]
 refine wp_region_grow 18 [13,14,15,16,17,18,19,20,21,22,23,24,25,26,27,4,5,6] [Fact.is (.pointer (some ⟨w.heap.size,1,none⟩)),Fact.is (.slice am (limbs M0).length cm),Fact.is (.pointer (some ⟨w.heap.size,2,none⟩)),Fact.is (.int .i64 e0),Fact.is (.int .i64 m),Fact.is (.int .i64 (e0-m)),Fact.li A,Fact.is (.pointer (some ⟨w.heap.size+1,1,none⟩)),Fact.is (.slice bm (limbs M1).length dm),Fact.is (.pointer (some ⟨w.heap.size+1,2,none⟩)),Fact.is (.int .i64 e1),Fact.is (.int .i64 m),Fact.is (.int .i64 (e1-m)),Fact.li B,Fact.is (.int .i64 m),Fact.li A,Fact.li B,Fact.is (.int .i64 m)] (by kernel_rfl) (by kernel_rfl) ⟨?o0,?o1,?o2,?o3,?o4,?o5,?o6,?o7,?o8,?o9,?o10,?o11,?o12,?o13,?o14,?o15,?o16,?o17,trivial⟩ ?after
 case o0=>(refine oQ rfl ?_;intro ρ w1 R hcon hfn hρ hb hp hR;have e2:ρ (.tmp 2)=.pointer (some ⟨w.heap.size,0,none⟩):=hρ.tmp 2 rfl;clear hρ hp;unfold OpRun;go_simp;exact hR _ _ (Below.refl _ _) rfl)
 case o1=>(refine oQ rfl ?_;intro ρ w1 R hcon hfn hρ hb hp hR;have e13:ρ (.tmp 13)=_:=hp 0 13 rfl rfl;obtain ⟨⟨j0,j1,-,-,-⟩,j2,-⟩:=zA.below hb;clear hρ hp;unfold OpRun;go_simp;exact hR _ _ (Below.refl _ _) rfl)
 case o2=>(refine oQ rfl ?_;intro ρ w1 R hcon hfn hρ hb hp hR;have e2:ρ (.tmp 2)=.pointer (some ⟨w.heap.size,0,none⟩):=hρ.tmp 2 rfl;clear hρ hp;unfold OpRun;go_simp;exact hR _ _ (Below.refl _ _) rfl)
 case o3=>(refine oQ rfl ?_;intro ρ w1 R hcon hfn hρ hb hp hR;have e15:ρ (.tmp 15)=_:=hp 2 15 rfl rfl;obtain ⟨⟨j0,j1,-,-,-⟩,j2,-⟩:=zA.below hb;clear hρ hp;unfold OpRun;go_simp;exact hR _ _ (Below.refl _ _) rfl)
 case o4=>(refine oQ rfl ?_;intro ρ w1 R hcon hfn hρ hb hp hR;have e7:ρ (.tmp 7)=.int .i64 m:=hρ.tmp 7 rfl;clear hρ hp;unfold OpRun;go_simp;exact hR _ _ (Below.refl _ _) rfl)
 case o5=>(refine oQ rfl ?_;intro ρ w1 R hcon hfn hρ hb hp hR;have e16:ρ (.tmp 16)=_:=hp 3 16 rfl rfl;have e17:ρ (.tmp 17)=_:=hp 4 17 rfl rfl;clear hρ hp;unfold OpRun;go_simp;exact hR _ _ (Below.refl _ _) rfl)
 case o6=>(refine oQ rfl ?_;intro ρ w1 R hcon hfn hρ hb hp hR;have e14:ρ (.tmp 14)=_:=hp 1 14 rfl rfl;have e18:ρ (.tmp 18)=_:=hp 5 18 rfl rfl;clear hρ hp;unfold OpRun;go_simp;(refine (LA.out _ (HN.out.below (below_trans yb0 hb))).mono ?_;rintro e wn ⟨a9,rfl,hn9,hbn⟩;exact ⟨_,rfl,hR _ _ hbn ⟨a9,_,rfl,hn9⟩⟩))
 case o7=>(refine oQ rfl ?_;intro ρ w1 R hcon hfn hρ hb hp hR;have e3:ρ (.tmp 3)=.pointer (some ⟨w.heap.size+1,0,none⟩):=hρ.tmp 3 rfl;clear hρ hp;unfold OpRun;go_simp;exact hR _ _ (Below.refl _ _) rfl)
 case o8=>(refine oQ rfl ?_;intro ρ w1 R hcon hfn hρ hb hp hR;have e20:ρ (.tmp 20)=_:=hp 7 20 rfl rfl;obtain ⟨⟨j0,j1,-,-,-⟩,j2,-⟩:=zB.below hb;clear hρ hp;unfold OpRun;go_simp;exact hR _ _ (Below.refl _ _) rfl)
 case o9=>(refine oQ rfl ?_;intro ρ w1 R hcon hfn hρ hb hp hR;have e3:ρ (.tmp 3)=.pointer (some ⟨w.heap.size+1,0,none⟩):=hρ.tmp 3 rfl;clear hρ hp;unfold OpRun;go_simp;exact hR _ _ (Below.refl _ _) rfl)
 case o10=>(refine oQ rfl ?_;intro ρ w1 R hcon hfn hρ hb hp hR;have e22:ρ (.tmp 22)=_:=hp 9 22 rfl rfl;obtain ⟨⟨j0,j1,-,-,-⟩,j2,-⟩:=zB.below hb;clear hρ hp;unfold OpRun;go_simp;exact hR _ _ (Below.refl _ _) rfl)
 case o11=>(refine oQ rfl ?_;intro ρ w1 R hcon hfn hρ hb hp hR;have e7:ρ (.tmp 7)=.int .i64 m:=hρ.tmp 7 rfl;clear hρ hp;unfold OpRun;go_simp;exact hR _ _ (Below.refl _ _) rfl)
 case o12=>(refine oQ rfl ?_;intro ρ w1 R hcon hfn hρ hb hp hR;have e23:ρ (.tmp 23)=_:=hp 10 23 rfl rfl;have e24:ρ (.tmp 24)=_:=hp 11 24 rfl rfl;clear hρ hp;unfold OpRun;go_simp;exact hR _ _ (Below.refl _ _) rfl)
 case o13=>(refine oQ rfl ?_;intro ρ w1 R hcon hfn hρ hb hp hR;have e21:ρ (.tmp 21)=_:=hp 8 21 rfl rfl;have e25:ρ (.tmp 25)=_:=hp 12 25 rfl rfl;clear hρ hp;unfold OpRun;go_simp;(refine (LB.out _ (HM.out.below (below_trans yb0 hb))).mono ?_;rintro e wn ⟨a9,rfl,hn9,hbn⟩;exact ⟨_,rfl,hR _ _ hbn ⟨a9,_,rfl,hn9⟩⟩))
 case o14=>(refine oQ rfl ?_;intro ρ w1 R hcon hfn hρ hb hp hR;have e7:ρ (.tmp 7)=.int .i64 m:=hρ.tmp 7 rfl;clear hρ hp;unfold OpRun;go_simp;exact hR _ _ (Below.refl _ _) rfl)
 case o15=>(refine oQ rfl ?_;intro ρ w1 R hcon hfn hρ hb hp hR;have f19:=hp 6 19 rfl rfl;clear hρ hp;unfold OpRun;go_simp;exact hR _ _ (Below.refl _ _) f19)
 case o16=>(refine oQ rfl ?_;intro ρ w1 R hcon hfn hρ hb hp hR;have f26:=hp 13 26 rfl rfl;clear hρ hp;unfold OpRun;go_simp;exact hR _ _ (Below.refl _ _) f26)
 case o17=>(refine oQ rfl ?_;intro ρ w1 R hcon hfn hρ hb hp hR;have e27:ρ (.tmp 27)=_:=hp 14 27 rfl rfl;clear hρ hp;unfold OpRun;go_simp;exact hR _ _ (Below.refl _ _) rfl)
 case after=>
  intro u wn hb hf
  have f4:=hf 15 4 (by omega) rfl
  have f5:=hf 16 5 (by omega) rfl
  have e6:u 6=_:=hf 17 6 (by omega) rfl
  clear hf
  simp only [putAll,Act.put,List.setIfInBounds_toArray,List.set_cons_zero,List.set_cons_succ,List.drop_succ_cons,List.drop_zero,List.drop_nil]
  rw [e6]
  obtain ⟨a4,c4,e4,hN4⟩:=f4
  obtain ⟨a5,c5,e5,hN5⟩:=f5
  rw [e4,e5]
  clear e4 e5
  go_wp2_with fail
  refine bodyPost_ret (by simp [results,Tryz.results72,go_sem];try rfl) rfl ?_
  exact ⟨_,_,_,_,rfl,hN4,hN5,below_trans yb0 hb⟩
theorem plusD_any (v u:Value) (D E:Dy) (w:World) (hv:VD w D v) (hu:VD w E u) (hl:(limbs D.1.natAbs).length≤1100000000) (hl':(limbs E.1.natAbs).length≤1100000000) (he: -35000000000≤D.2∧D.2≤35000000000) (he': -35000000000≤E.2∧E.2≤35000000000) (hT:Tab 0 w):
 Calls Tryz.prog 24 #[v,u] w (RetVD w (addD D E)):=by
 have HV:=hid hv
 have HU:=hid hu
 obtain ⟨am,cm,rfl,hN⟩:=hv
 obtain ⟨bm,dm,rfl,hM⟩:=hu
 have HN:=hid hN
 have HM:=hid hM
 have HT:=hid hT
 have lD:=dy_len D
 have lE:=dy_len E
 have zA:QL 38 (((w.alloc (.cells #[.bool (decide (D.1<0)),.slice am (limbs D.1.natAbs).length cm,.int .i64 D.2] 38)).alloc (.cells #[.bool (decide (E.1<0)),.slice bm (limbs E.1.natAbs).length dm,.int .i64 E.2] 38)).alloc (.cells #[.bool false,.slice none 0 0,.int .i64 0] 38)) w.heap.size (decide (D.1<0)) (.slice am (limbs D.1.natAbs).length cm) D.2:=((QL.made rfl).alloc _).alloc _
 have zB:QL 38 (((w.alloc (.cells #[.bool (decide (D.1<0)),.slice am (limbs D.1.natAbs).length cm,.int .i64 D.2] 38)).alloc (.cells #[.bool (decide (E.1<0)),.slice bm (limbs E.1.natAbs).length dm,.int .i64 E.2] 38)).alloc (.cells #[.bool false,.slice none 0 0,.int .i64 0] 38)) (w.heap.size+1) (decide (E.1<0)) (.slice bm (limbs E.1.natAbs).length dm) E.2:=(QL.made (by first|omega|(simp;done)|(simp;omega))).alloc _
 have zR0:QL 38 (((w.alloc (.cells #[.bool (decide (D.1<0)),.slice am (limbs D.1.natAbs).length cm,.int .i64 D.2] 38)).alloc (.cells #[.bool (decide (E.1<0)),.slice bm (limbs E.1.natAbs).length dm,.int .i64 E.2] 38)).alloc (.cells #[.bool false,.slice none 0 0,.int .i64 0] 38)) (w.heap.size+1+1) false (.slice none 0 0) 0:=QL.made (by first|omega|(simp;done)|(simp;omega))
 have yb0:Below w.heap.size w (((w.alloc (.cells #[.bool (decide (D.1<0)),.slice am (limbs D.1.natAbs).length cm,.int .i64 D.2] 38)).alloc (.cells #[.bool (decide (E.1<0)),.slice bm (limbs E.1.natAbs).length dm,.int .i64 E.2] 38)).alloc (.cells #[.bool false,.slice none 0 0,.int .i64 0] 38)):=by (repeat' first|(with_reducible first|assumption|apply bR|apply bA|apply bN|apply bD|apply bL|apply bS)|refine bT ?_ (by assumption)|go_size)
 by_cases hD:D.1=0
 ·have NO:=hid (show ∀w,Ns .u32 w bm dm (limbs E.1.natAbs)→Tab 0 w→Calls Tryz.prog 65 #[.bool (decide (E.1<0)),.slice bm (limbs E.1.natAbs).length dm,.int .i64 E.2] w (RetVD w (addD D E)) from fun w k t=>by
   have:=normD_any (decide (E.1<0)) bm dm E.1.natAbs E.2 w k (by omega) (by omega) t
   rw [sg_self] at this
   rw [addD_left D E hD];exact this)
  rw [lD.2 hD] at zA zB zR0 yb0 ⊢
  generalize addD D E=R at *
  generalize E.1.natAbs=M1 at *
  generalize decide (D.1<0)=n0 at *
  generalize decide (E.1<0)=n1 at *
  generalize D.2=e0 at *
  generalize E.2=e1 at *
  clear hN hM hT HV HU HN lD lE hD
  go_enter Tryz.func24,Tryz.ntmps24
  go_upto_region 2 with fail
  have zR5:=zR0
  have yb5:=yb0
  obtain ⟨⟨j0,j1,-,-,-⟩,j2,-⟩:=id zB
  go_wp2_with (go_at_call 65;(with_reducible refine (NO.out _ (HM.out.below yb0) (HT.out.below yb0)).mono ?_);rintro en w3 ⟨v3,rfl,⟨a3,c3,rfl,hN3⟩,hb3⟩;have zR3:=zR5.below hb3;have yb3:=below_trans yb5 hb3;obtain ⟨⟨k0,k1,f0,f1,hs2⟩,k2,f2⟩:=id zR3)
  refine bodyPost_ret (by simp [results,Tryz.results24,go_sem,k0,k1,k2];try rfl) rfl ?_
  exact ⟨_,rfl,⟨a3,c3,rfl,hN3.set3 zR3 (by intro x h;cases h) _ _ _⟩,((yb3.setCell (by first|omega|(simp;done)|(simp;omega)) _).setCell (by first|omega|(simp;done)|(simp;omega)) _).setCell (by first|omega|(simp;done)|(simp;omega)) _⟩
 ·have hlD:(((limbs D.1.natAbs).length:Int)==0)=false:=beq_eq_false_iff_ne.2 (fun h=>hD (lD.1 (by omega)))
  by_cases hE:E.1=0
  ·have NO:=hid (show ∀w,Ns .u32 w am cm (limbs D.1.natAbs)→Tab 0 w→Calls Tryz.prog 65 #[.bool (decide (D.1<0)),.slice am (limbs D.1.natAbs).length cm,.int .i64 D.2] w (RetVD w (addD D E)) from fun w k t=>by
    have:=normD_any (decide (D.1<0)) am cm D.1.natAbs D.2 w k (by omega) (by omega) t
    rw [sg_self] at this
    rw [addD_right D E hE];exact this)
   rw [lE.2 hE] at zA zB zR0 yb0 ⊢
   generalize addD D E=R at *
   generalize D.1.natAbs=M0 at *
   generalize decide (D.1<0)=n0 at *
   generalize decide (E.1<0)=n1 at *
   generalize D.2=e0 at *
   generalize E.2=e1 at *
   clear hN hM hT HV HU HM lD lE hD hE
   go_enter Tryz.func24,Tryz.ntmps24
   obtain ⟨⟨j0,j1,-,-,-⟩,j2,-⟩:=id zA
   obtain ⟨⟨i0,i1,-,-,-⟩,i2,-⟩:=id zB
   go_upto_region 4 with fail
   have zR5:=zR0
   have yb5:=yb0
   go_wp2_with (go_at_call 65;(with_reducible refine (NO.out _ (HN.out.below yb0) (HT.out.below yb0)).mono ?_);rintro en w3 ⟨v3,rfl,⟨a3,c3,rfl,hN3⟩,hb3⟩;have zR3:=zR5.below hb3;have yb3:=below_trans yb5 hb3;obtain ⟨⟨k0,k1,f0,f1,hs2⟩,k2,f2⟩:=id zR3)
   refine bodyPost_ret (by simp [results,Tryz.results24,go_sem,k0,k1,k2];try rfl) rfl ?_
   exact ⟨_,rfl,⟨a3,c3,rfl,hN3.set3 zR3 (by intro x h;cases h) _ _ _⟩,((yb3.setCell (by first|omega|(simp;done)|(simp;omega)) _).setCell (by first|omega|(simp;done)|(simp;omega)) _).setCell (by first|omega|(simp;done)|(simp;omega)) _⟩
  ·have hlE:(((limbs E.1.natAbs).length:Int)==0)=false:=beq_eq_false_iff_ne.2 (fun h=>hE (lE.1 (by omega)))
   obtain ⟨m,hm⟩: ∃m,m=min D.2 E.2:=⟨_,rfl⟩
   have hmb: -35000000000≤m∧m≤D.2∧m≤E.2∧m≤35000000000:=by omega
   have AL:=hid (show ∀w',Below w.heap.size w w'→Calls Tryz.prog 72 #[.agg #[.bool (decide (D.1<0)),.slice am (limbs D.1.natAbs).length cm,.int .i64 D.2],.agg #[.bool (decide (E.1<0)),.slice bm (limbs E.1.natAbs).length dm,.int .i64 E.2]] w' (RetAl w' (alN D m) (alN E m) m) from fun w' hb=>by
    rw [hm];exact align_any _ _ D E w' (HV.out.below hb) (HU.out.below hb) hl hl' he he')
   have lA:=alN_len D m 1100000000 2187500000 hl (by omega)
   have lB:=alN_len E m 1100000000 2187500000 hl' (by omega)
   have hadd:addD D E=nrm (sc D.1 D.2 m+sc E.1 E.2 m) m:=by unfold addD;rw [←hm]
   have CM:=hid (fun a b c d w h0 h1=>compare_any a b c d (alN D m) (alN E m) w h0 h1)
   have PL:=hid (fun a b c d w h0 h1=>plus_any a b c d (alN D m) (alN E m) w h0 h1 (by omega) (by omega))
   have MI1:=hid (fun a b c d w h0 h1 (hg:alN E m≤alN D m)=>minus_any a b c d (alN D m) (alN E m) w h0 h1 (by omega) hg)
   have MI2:=hid (fun a b c d w h0 h1 (hg:alN D m≤alN E m)=>minus_any a b c d (alN E m) (alN D m) w h0 h1 (by omega) hg)
   have NOs:=hid (show decide (D.1<0)=decide (E.1<0)→ ∀a c w,Ns .u32 w a c (limbs (alN D m+alN E m))→Tab 0 w→Calls Tryz.prog 65 #[.bool (decide (D.1<0)),.slice a (limbs (alN D m+alN E m)).length c,.int .i64 m] w (RetVD w (addD D E)) from fun h a c w k t=>by
    have h3:=limbs_len_add2 (alN D m) (alN E m) 3287500001 (by omega) (by omega)
    have:=normD_any (decide (D.1<0)) a c (alN D m+alN E m) m w k (by omega) (by omega) t
    rw [add_same D E m _ rfl h.symm] at this
    rw [hadd];exact this)
   have NO1:=hid (show decide (D.1<0)≠decide (E.1<0)→alN E m≤alN D m→ ∀a c w,Ns .u32 w a c (limbs (alN D m-alN E m))→Tab 0 w→Calls Tryz.prog 65 #[.bool (decide (D.1<0)),.slice a (limbs (alN D m-alN E m)).length c,.int .i64 m] w (RetVD w (addD D E)) from fun h hg a c w k t=>by
    have h3:=limbs_len_mono (Nat.sub_le (alN D m) (alN E m))
    have:=normD_any (decide (D.1<0)) a c (alN D m-alN E m) m w k (by omega) (by omega) t
    rw [add_ge D E m h hg] at this
    rw [hadd];exact this)
   have NO2:=hid (show decide (D.1<0)≠decide (E.1<0)→alN D m≤alN E m→ ∀a c w,Ns .u32 w a c (limbs (alN E m-alN D m))→Tab 0 w→Calls Tryz.prog 65 #[.bool (decide (E.1<0)),.slice a (limbs (alN E m-alN D m)).length c,.int .i64 m] w (RetVD w (addD D E)) from fun h hg a c w k t=>by
    have h3:=limbs_len_mono (Nat.sub_le (alN E m) (alN D m))
    have:=normD_any (decide (E.1<0)) a c (alN E m-alN D m) m w k (by omega) (by omega) t
    rw [add_lt D E m h hg] at this
    rw [hadd];exact this)
   generalize addD D E=R at *
   generalize alN D m=A at *
   generalize alN E m=B at *
   generalize D.1.natAbs=M0 at *
   generalize E.1.natAbs=M1 at *
   generalize decide (D.1<0)=n0 at *
   generalize decide (E.1<0)=n1 at *
   generalize D.2=e0 at *
   generalize E.2=e1 at *
   clear hN hM hT HV HU HN HM lD lE hD hE hm hadd lA lB
   go_enter Tryz.func24,Tryz.ntmps24
   obtain ⟨⟨j0,j1,-,-,-⟩,j2,-⟩:=id zA
   obtain ⟨⟨i0,i1,-,-,-⟩,i2,-⟩:=id zB
   go_upto_region 6 with (go_at_call 72;(with_reducible refine (AL.out _ yb0).mono ?_);rintro en w4 ⟨a4,c4,a5,c5,rfl,hN4,hN5,hb4⟩)
   have zA4:=zA.below hb4
   have zB4:=zB.below hb4
   have zR4:=zR0.below hb4
   have yb4:=below_trans yb0 hb4
   clear zA zB zR0 j0 j1 j2 i0 i1 i2
   obtain ⟨⟨j0,j1,-,-,-⟩,j2,-⟩:=id zA4
   obtain ⟨⟨i0,i1,-,-,-⟩,i2,-⟩:=id zB4
   by_cases hn:n0=n1
   ·subst hn
    have NOx:=hid (NOs.out rfl)
    go_upto_region 7 with fail
    refine wp_region_grow 7 [43,44,45,46,47,48,49] [Fact.is (.pointer (some ⟨w.heap.size,0,none⟩)),Fact.is (.bool n0),Fact.is (.slice a4 (limbs A).length c4),Fact.is (.slice a5 (limbs B).length c5),Fact.li (A+B),Fact.is (.int .i64 m),Fact.vd R] (by kernel_rfl) (by kernel_rfl) ⟨?o0,?o1,?o2,?o3,?o4,?o5,?o6,trivial⟩ ?after
    case o0=>(refine oQ rfl ?_;intro ρ w1 R hcon hfn hρ hb hp hR;have e2:ρ (.tmp 2)=.pointer (some ⟨w.heap.size,0,none⟩):=hρ.tmp 2 rfl;clear hρ hp;unfold OpRun;go_simp;exact hR _ _ (Below.refl _ _) rfl)
    case o1=>(refine oQ rfl ?_;intro ρ w1 R hcon hfn hρ hb hp hR;have e43:ρ (.tmp 43)=_:=hp 0 43 rfl rfl;obtain ⟨⟨j0,j1,-,-,-⟩,j2,-⟩:=zA4.below hb;clear hρ hp;unfold OpRun;go_simp;exact hR _ _ (Below.refl _ _) rfl)
    case o2=>(refine oQ rfl ?_;intro ρ w1 R hcon hfn hρ hb hp hR;have e5:ρ (.tmp 5)=.slice a4 (limbs A).length c4:=hρ.tmp 5 rfl;clear hρ hp;unfold OpRun;go_simp;exact hR _ _ (Below.refl _ _) rfl)
    case o3=>(refine oQ rfl ?_;intro ρ w1 R hcon hfn hρ hb hp hR;have e6:ρ (.tmp 6)=.slice a5 (limbs B).length c5:=hρ.tmp 6 rfl;clear hρ hp;unfold OpRun;go_simp;exact hR _ _ (Below.refl _ _) rfl)
    case o4=>(refine oQ rfl ?_;intro ρ w1 R hcon hfn hρ hb hp hR;have e45:ρ (.tmp 45)=_:=hp 2 45 rfl rfl;have e46:ρ (.tmp 46)=_:=hp 3 46 rfl rfl;clear hρ hp;unfold OpRun;go_simp;(refine (PL.out _ _ _ _ _ (hN4.below hb) (hN5.below hb)).mono ?_;rintro e wn ⟨a9,rfl,hn9,hbn⟩;exact ⟨_,rfl,hR _ _ hbn ⟨a9,_,rfl,hn9⟩⟩))
    case o5=>(refine oQ rfl ?_;intro ρ w1 R hcon hfn hρ hb hp hR;have e7:ρ (.tmp 7)=.int .i64 m:=hρ.tmp 7 rfl;clear hρ hp;unfold OpRun;go_simp;exact hR _ _ (Below.refl _ _) rfl)
    case o6=>(refine oQ rfl ?_;intro ρ w1 R hcon hfn hρ hb hp hR;have e44:ρ (.tmp 44)=_:=hp 1 44 rfl rfl;have f47:=hp 4 47 rfl rfl;have e48:ρ (.tmp 48)=_:=hp 5 48 rfl rfl;obtain ⟨a9,c9,e47,hn9⟩:=f47;clear hρ hp;unfold OpRun;go_simp;(skip;refine (NOx.out a9 c9 _ hn9 (HT.out.below (below_trans yb4 hb))).mono ?_;rintro e wn ⟨v9,rfl,hv9,hbn⟩;exact ⟨_,rfl,hR _ _ hbn hv9⟩))
    case after=>
     intro u wn hb hf
     have f49:=hf 6 49 (by omega) rfl
     clear hf
     simp only [putAll,Act.put,List.setIfInBounds_toArray,List.set_cons_zero,List.set_cons_succ,List.drop_succ_cons,List.drop_zero,List.drop_nil]
     obtain ⟨a3,c3,e49,hN3⟩:=f49
     rw [e49]
     have zR3:=zR4.below hb
     have yb3:=below_trans yb4 hb
     obtain ⟨⟨k0,k1,f0,f1,hs2⟩,k2,f2⟩:=id zR3
     clear e49
     go_wp2_with fail
     refine bodyPost_ret (by simp [results,Tryz.results24,go_sem,k0,k1,k2];try rfl) rfl ?_
     exact ⟨_,rfl,⟨a3,c3,rfl,hN3.set3 zR3 (by intro x h;cases h) _ _ _⟩,((yb3.setCell (by first|omega|(simp;done)|(simp;omega)) _).setCell (by first|omega|(simp;done)|(simp;omega)) _).setCell (by first|omega|(simp;done)|(simp;omega)) _⟩
   ·have hnb:(n0==n1)=false:=beq_eq_false_iff_ne.2 hn
    have CMx:=hid (CM.out a4 a5 c4 c5 w4 hN4 hN5)
    obtain ⟨cmv,hcmv⟩: ∃c,c=cmpI (A:Int) (B:Int):=⟨_,rfl⟩
    rw [←hcmv] at CMx
    have HCV:=hid hcmv
    clear hcmv
    go_upto_region 8 with fail
    go_cut [50] (fun s50 wx=>s50=.bool (decide (0≤cmv))∧Below w4.heap.size w4 wx)
    case first=>
     go_wp2_with (go_at_call 73;(with_reducible refine CMx.out.mono ?_);rintro en w5 ⟨rfl,nq,rfl⟩)
     go_meet
     exact ⟨rfl,below_drewN (Below.refl _ _) nq⟩
    case rest=>
     obtain ⟨rfl,hb5⟩:=hcut
     have n4:=hN4.below hb5
     have n5:=hN5.below hb5
     have zA5:=zA4.below hb5
     have zB5:=zB4.below hb5
     have zR5:=zR4.below hb5
     have yb5:=below_trans yb4 hb5
     clear hN4 hN5 zA4 zB4 zR4 yb4 hb5 j0 j1 j2 i0 i1 i2 CM CMx PL NOs
     by_cases hg:B≤A
     ·have hd:decide (0≤cmv)=true:=decide_eq_true (by rw [HCV.out];unfold cmpI;split<;>(try split)<;>omega)
      rw [hd]
      clear hd
      have MIx:=hid (fun a b c d w h0 h1=>MI1.out a b c d w h0 h1 hg)
      have NOx:=hid (NO1.out hn hg)
      go_upto_region 9 with fail
      refine wp_region_grow 7 [55,56,57,58,59,60,61] [Fact.is (.pointer (some ⟨w.heap.size,0,none⟩)),Fact.is (.bool n0),Fact.is (.slice a4 (limbs A).length c4),Fact.is (.slice a5 (limbs B).length c5),Fact.li (A-B),Fact.is (.int .i64 m),Fact.vd R] (by kernel_rfl) (by kernel_rfl) ⟨?o0,?o1,?o2,?o3,?o4,?o5,?o6,trivial⟩ ?after
      case o0=>(refine oQ rfl ?_;intro ρ w1 R hcon hfn hρ hb hp hR;have e2:ρ (.tmp 2)=.pointer (some ⟨w.heap.size,0,none⟩):=hρ.tmp 2 rfl;clear hρ hp;unfold OpRun;go_simp;exact hR _ _ (Below.refl _ _) rfl)
      case o1=>(refine oQ rfl ?_;intro ρ w1 R hcon hfn hρ hb hp hR;have e55:ρ (.tmp 55)=_:=hp 0 55 rfl rfl;obtain ⟨⟨j0,j1,-,-,-⟩,j2,-⟩:=zA5.below hb;clear hρ hp;unfold OpRun;go_simp;exact hR _ _ (Below.refl _ _) rfl)
      case o2=>(refine oQ rfl ?_;intro ρ w1 R hcon hfn hρ hb hp hR;have e5:ρ (.tmp 5)=.slice a4 (limbs A).length c4:=hρ.tmp 5 rfl;clear hρ hp;unfold OpRun;go_simp;exact hR _ _ (Below.refl _ _) rfl)
      case o3=>(refine oQ rfl ?_;intro ρ w1 R hcon hfn hρ hb hp hR;have e6:ρ (.tmp 6)=.slice a5 (limbs B).length c5:=hρ.tmp 6 rfl;clear hρ hp;unfold OpRun;go_simp;exact hR _ _ (Below.refl _ _) rfl)
      case o4=>(refine oQ rfl ?_;intro ρ w1 R hcon hfn hρ hb hp hR;have e57:ρ (.tmp 57)=_:=hp 2 57 rfl rfl;have e58:ρ (.tmp 58)=_:=hp 3 58 rfl rfl;clear hρ hp;unfold OpRun;go_simp;(refine (MIx.out _ _ _ _ _ (n4.below hb) (n5.below hb)).mono ?_;rintro e wn ⟨a9,rfl,hn9,hbn⟩;exact ⟨_,rfl,hR _ _ hbn ⟨a9,_,rfl,hn9⟩⟩))
      case o5=>(refine oQ rfl ?_;intro ρ w1 R hcon hfn hρ hb hp hR;have e7:ρ (.tmp 7)=.int .i64 m:=hρ.tmp 7 rfl;clear hρ hp;unfold OpRun;go_simp;exact hR _ _ (Below.refl _ _) rfl)
      case o6=>(refine oQ rfl ?_;intro ρ w1 R hcon hfn hρ hb hp hR;have e56:ρ (.tmp 56)=_:=hp 1 56 rfl rfl;have f59:=hp 4 59 rfl rfl;have e60:ρ (.tmp 60)=_:=hp 5 60 rfl rfl;obtain ⟨a9,c9,e59,hn9⟩:=f59;clear hρ hp;unfold OpRun;go_simp;(skip;refine (NOx.out a9 c9 _ hn9 (HT.out.below (below_trans yb5 hb))).mono ?_;rintro e wn ⟨v9,rfl,hv9,hbn⟩;exact ⟨_,rfl,hR _ _ hbn hv9⟩))
      case after=>
       intro u wn hb hf
       have f61:=hf 6 61 (by omega) rfl
       clear hf
       simp only [putAll,Act.put,List.setIfInBounds_toArray,List.set_cons_zero,List.set_cons_succ,List.drop_succ_cons,List.drop_zero,List.drop_nil]
       obtain ⟨a3,c3,e61,hN3⟩:=f61
       rw [e61]
       have zR3:=zR5.below hb
       have yb3:=below_trans yb5 hb
       obtain ⟨⟨k0,k1,f0,f1,hs2⟩,k2,f2⟩:=id zR3
       clear e61
       go_wp2_with fail
       refine bodyPost_ret (by simp [results,Tryz.results24,go_sem,k0,k1,k2];try rfl) rfl ?_
       exact ⟨_,rfl,⟨a3,c3,rfl,hN3.set3 zR3 (by intro x h;cases h) _ _ _⟩,((yb3.setCell (by first|omega|(simp;done)|(simp;omega)) _).setCell (by first|omega|(simp;done)|(simp;omega)) _).setCell (by first|omega|(simp;done)|(simp;omega)) _⟩
     ·have hd:decide (0≤cmv)=false:=decide_eq_false (by rw [HCV.out];unfold cmpI;split<;>(try split)<;>omega)
      have hg2:A≤B:=by omega
      rw [hd]
      clear hd
      have MIx:=hid (fun a b c d w h0 h1=>MI2.out a b c d w h0 h1 hg2)
      have NOx:=hid (NO2.out hn hg2)
      go_upto_region 10 with fail
      refine wp_region_grow 7 [62,63,64,65,66,67,68] [Fact.is (.pointer (some ⟨w.heap.size+1,0,none⟩)),Fact.is (.bool n1),Fact.is (.slice a5 (limbs B).length c5),Fact.is (.slice a4 (limbs A).length c4),Fact.li (B-A),Fact.is (.int .i64 m),Fact.vd R] (by kernel_rfl) (by kernel_rfl) ⟨?o0,?o1,?o2,?o3,?o4,?o5,?o6,trivial⟩ ?after
      case o0=>(refine oQ rfl ?_;intro ρ w1 R hcon hfn hρ hb hp hR;have e3:ρ (.tmp 3)=.pointer (some ⟨w.heap.size+1,0,none⟩):=hρ.tmp 3 rfl;clear hρ hp;unfold OpRun;go_simp;exact hR _ _ (Below.refl _ _) rfl)
      case o1=>(refine oQ rfl ?_;intro ρ w1 R hcon hfn hρ hb hp hR;have e62:ρ (.tmp 62)=_:=hp 0 62 rfl rfl;obtain ⟨⟨j0,j1,-,-,-⟩,j2,-⟩:=zB5.below hb;clear hρ hp;unfold OpRun;go_simp;exact hR _ _ (Below.refl _ _) rfl)
      case o2=>(refine oQ rfl ?_;intro ρ w1 R hcon hfn hρ hb hp hR;have e6:ρ (.tmp 6)=.slice a5 (limbs B).length c5:=hρ.tmp 6 rfl;clear hρ hp;unfold OpRun;go_simp;exact hR _ _ (Below.refl _ _) rfl)
      case o3=>(refine oQ rfl ?_;intro ρ w1 R hcon hfn hρ hb hp hR;have e5:ρ (.tmp 5)=.slice a4 (limbs A).length c4:=hρ.tmp 5 rfl;clear hρ hp;unfold OpRun;go_simp;exact hR _ _ (Below.refl _ _) rfl)
      case o4=>(refine oQ rfl ?_;intro ρ w1 R hcon hfn hρ hb hp hR;have e64:ρ (.tmp 64)=_:=hp 2 64 rfl rfl;have e65:ρ (.tmp 65)=_:=hp 3 65 rfl rfl;clear hρ hp;unfold OpRun;go_simp;(refine (MIx.out _ _ _ _ _ (n5.below hb) (n4.below hb)).mono ?_;rintro e wn ⟨a9,rfl,hn9,hbn⟩;exact ⟨_,rfl,hR _ _ hbn ⟨a9,_,rfl,hn9⟩⟩))
      case o5=>(refine oQ rfl ?_;intro ρ w1 R hcon hfn hρ hb hp hR;have e7:ρ (.tmp 7)=.int .i64 m:=hρ.tmp 7 rfl;clear hρ hp;unfold OpRun;go_simp;exact hR _ _ (Below.refl _ _) rfl)
      case o6=>(refine oQ rfl ?_;intro ρ w1 R hcon hfn hρ hb hp hR;have e63:ρ (.tmp 63)=_:=hp 1 63 rfl rfl;have f66:=hp 4 66 rfl rfl;have e67:ρ (.tmp 67)=_:=hp 5 67 rfl rfl;obtain ⟨a9,c9,e66,hn9⟩:=f66;clear hρ hp;unfold OpRun;go_simp;(skip;refine (NOx.out a9 c9 _ hn9 (HT.out.below (below_trans yb5 hb))).mono ?_;rintro e wn ⟨v9,rfl,hv9,hbn⟩;exact ⟨_,rfl,hR _ _ hbn hv9⟩))
      case after=>
       intro u wn hb hf
       have f68:=hf 6 68 (by omega) rfl
       clear hf
       simp only [putAll,Act.put,List.setIfInBounds_toArray,List.set_cons_zero,List.set_cons_succ,List.drop_succ_cons,List.drop_zero,List.drop_nil]
       obtain ⟨a3,c3,e68,hN3⟩:=f68
       rw [e68]
       have zR3:=zR5.below hb
       have yb3:=below_trans yb5 hb
       obtain ⟨⟨k0,k1,f0,f1,hs2⟩,k2,f2⟩:=id zR3
       clear e68
       go_wp2_with fail
       refine bodyPost_ret (by simp [results,Tryz.results24,go_sem,k0,k1,k2];try rfl) rfl ?_
       exact ⟨_,rfl,⟨a3,c3,rfl,hN3.set3 zR3 (by intro x h;cases h) _ _ _⟩,((yb3.setCell (by first|omega|(simp;done)|(simp;omega)) _).setCell (by first|omega|(simp;done)|(simp;omega)) _).setCell (by first|omega|(simp;done)|(simp;omega)) _⟩
end Go.Proofs.YtehhegbkahnhgaaGreatDoor
namespace Go.Ulp
open Go.RowKit
def bndB (D:Dy):Bool:=dyB (limbs D.1.natAbs).length D.2
end Go.Ulp
namespace Go.Proofs.YtehhegbkahnhgaaGreatDoor
open Go.RowKit Go.Ulp
set_option maxHeartbeats 1000000
set_option maxRecDepth 100000
end Go.Proofs.YtehhegbkahnhgaaGreatDoor
