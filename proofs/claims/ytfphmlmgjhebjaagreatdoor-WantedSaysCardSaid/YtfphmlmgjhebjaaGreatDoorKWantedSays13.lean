/- WantedSays: what the proof leans on, part 13 (Dn2 Dn5 Sh Qt1 ShelfS). -/
import Derived.Shelf.Spec.TrailingZeros
import Derived.Deep.DeepCutAuto
import Derived.Deep.CutBlock
import Derived.Shelf.Strings.Builder1
import Derived.Shelf.Strings.Builder2
import Derived.Shelf.Strings.OnBuilder
import Derived.Shelf.Strings.Trim
import Derived.Shelf.Small.Utf8
import Derived.Shelf.Small.Bits
import Derived.Shelf.Small.Strs
import Derived.Shelf.Small.Wraps
import Derived.Shelf.Strings.BuilderF
import Derived.Shelf.Strconv.Atoi
import Derived.Shelf.Strconv.Itoa0
import Derived.Shelf.Strconv.Itoa1
import Derived.Shelf.LaysM
import Derived.Shelf.Strconv.Itoa2
import Derived.Shelf.Strconv.Itoa3
import Derived.Ground.MpProg
import Derived.Shelf.Pu.ParseUintPublic10
import Derived.Shelf.Strings.Search1
import Derived.Shelf.Strings.Search2
import Derived.Shelf.Strings.Search3
import Derived.Shelf.Strings.Shaped
import Derived.Shelf.Strings.Prefix
import Derived.Shelf.Strings.Runes
import Derived.Shelf.Strings.AsciiSet
import Derived.Shelf.Bits.Mul64
import Derived.Shelf.Strings.Repeat
import Derived.Shelf.Unicode.DecodeSlow
import Derived.Ground.Names2Prog
import Derived.Shelf.Slices.ReverseS
import Derived.Shelf.Slices.SearchI
import Derived.Test.YtfphmlmgjhebjaaGreatDoorKWantedSays2
import Derived.Test.YtfphmlmgjhebjaaGreatDoorKWantedSays6
import Derived.Test.YtfphmlmgjhebjaaGreatDoorKWantedSays10
import Derived.Test.YtfphmlmgjhebjaaGreatDoorKWantedSays11
import Derived.Test.YtfphmlmgjhebjaaGreatDoorKWantedSays12
set_option linter.unusedVariables false
set_option linter.unusedSimpArgs false
namespace Go.Ulp
open Go.RowKit
def VD (w:World) (D:Dy) (v:Value):Prop:= ∃am cm,v=.agg #[.bool (decide (D.1<0)),.slice am (limbs D.1.natAbs).length cm,.int .i64 D.2]∧Ns .u32 w am cm (limbs D.1.natAbs)
def RetVD (w:World) (D:Dy) (e:Ending) (w':World):Prop:= ∃v,e=.returned v∧VD w' D v∧Below w.heap.size w w'
theorem VD.below {w w':World} {D:Dy} {v:Value} (h:VD w D v) (hb:Below w.heap.size w w'):VD w' D v:=by
 obtain ⟨am,cm,h1,h2⟩:=h
 exact ⟨am,cm,h1,h2.below hb⟩
def Tab (g:Nat) (w:World):Prop:=Go.Proofs.TabAt g Go.Lib.deBruijn32tab w
theorem Tab.below {g:Nat} {w w':World} (h:Tab g w) (hb:Below w.heap.size w w'):Tab g w':=fun j hj=>
 (hb.cell (World.block_lt_of_cell? _ _ (h j hj))).trans (h j hj)
theorem ctz_tw (x:Nat) (h0:x≠0) (h1:x<2^32):Lib.ctz 32 x=tw x∧tw x<32:=by
 obtain ⟨m,hm,hk⟩:=Lib.ctzFrom_spec 32 x (by omega) h1
 have e:Lib.ctz 32 x=Lib.ctzFrom 32 x:=by simp [Lib.ctz,h0]
 have h2:=(tw_od_mul (2*m+1) (Lib.ctzFrom 32 x) (by omega)).1
 rw [Nat.mul_comm,←hm] at h2
 rw [e,h2]
 exact ⟨rfl,hk⟩
theorem tw_low (x r:Nat) (h0:x≠0) (h1:x<2^32):tw (x+2^32*r)=tw x:=by
 have hk:=(ctz_tw x h0 h1).2
 obtain ⟨e1,e2⟩:=od_tw x (by omega)
 obtain ⟨d,hd⟩: ∃d,32=tw x+(d+1):=⟨31-tw x,by omega⟩
 have e3:x+2^32*r=(od x+2*(2^d*r))*2^tw x:=by
  have h4:2^32*r=2*(2^d*r)*2^tw x:=by
   rw [hd,Nat.pow_add,Nat.pow_succ]
   simp only [Nat.mul_assoc,Nat.mul_comm,Nat.mul_left_comm]
  rw [Nat.add_mul,e1,h4]
 rw [e3]
 exact (tw_od_mul _ _ (by omega)).1
theorem val_zeros_take (B:Nat) (L:List Nat) (i:Nat) (h: ∀j,j<i→L.getD j 0=0):val B (L.take i)=0:=by
 refine val_zeros B _ (fun d hd=>?_)
 obtain ⟨j,hj,rfl⟩:=List.mem_iff_getElem.1 hd
 rw [List.length_take] at hj
 have h1:=h j (by omega)
 rw [getD_in _ _ (by omega)] at h1
 rw [List.getElem_take];exact h1
theorem tw_limbs (M i x:Nat) (hi:i<(limbs M).length) (hz: ∀j,j<i→(limbs M).getD j 0=0) (hx:(limbs M).getD i 0=x) (hx0:x≠0):tw M=32*i+tw x:=by
 have lL:=limbs_lim M
 have hx1:x<2^32:=by rw [←hx];exact lL.getD (by omega) i
 have h1:=val_take_drop 4294967296 (limbs M) i (by omega)
 have h2:=val_drop 4294967296 (limbs M) i hi
 have h3:=lval_limbs M
 unfold lval at h3
 rw [h3,val_zeros_take _ _ _ hz,h2,hx,Nat.zero_add] at h1
 have e:M=(x+2^32*val 4294967296 ((limbs M).drop (i+1)))*2^(32*i):=by
  conv=>lhs;rw [h1]
  rw [Nat.mul_comm,Nat.pow_mul]
 rw [e,(tw_mul _ _ (by omega)).1,tw_low x _ hx0 hx1];omega
theorem nrm_sg (neg:Bool) (M:Nat) (e:Int) (h:0<M):nrm (sg neg M) e=(sg neg (od M),e+tw M):=by
 have hx:sg neg (M:Int)≠0:=by unfold sg;cases neg<;>simp<;>omega
 have ha:(sg neg (M:Int)).natAbs=M:=by rw [sg_abs,Int.natAbs_natCast]
 have h1:=nrm_abs (sg neg (M:Int)) e hx
 rw [ha] at h1
 obtain ⟨k,h2,h3⟩:=nrm_rep (sg neg (M:Int)) e
 refine Prod.ext ?_ ?_
 ·have hp:=pw_pos k
  have key: ∀y:Int,y.natAbs=od M→sg neg (M:Int)=y*pw k→y=sg neg (od M:Int):=by
   intro y hy1 hy2
   have hod:=od_pos M h
   rcases Int.lt_trichotomy y 0 with hs|hs|hs
   ·have h5:y*pw k<0:=Int.mul_neg_of_neg_of_pos hs hp
    rw [←hy2] at h5
    cases neg
    ·exact absurd h5 (show ¬(M:Int)<0 by omega)
    ·show y= -(od M:Int);omega
   ·subst hs;simp at hy1;omega
   ·have h5:0<y*pw k:=Int.mul_pos hs hp
    rw [←hy2] at h5
    cases neg
    ·show y=(od M:Int);omega
    ·exact absurd h5 (show ¬0< -(M:Int) by omega)
  exact key _ h1 h2
 ·show (nrm (sg neg (M:Int)) e).2=_
  unfold nrm;rw [if_neg hx,ha]
theorem nrm_sg_zero (neg:Bool) (e:Int):nrm (sg neg ((0:Nat):Int)) e=(0,0):=by
 have:sg neg ((0:Nat):Int)=0:=by unfold sg;cases neg<;>rfl
 rw [this];rfl
theorem sg_od_lt (neg:Bool) (M:Nat) (h:0<M):decide (sg neg (od M:Int)<0)=neg∧(sg neg (od M:Int)).natAbs=od M:=by
 have:=od_pos M h
 refine ⟨?_,by rw [sg_abs,Int.natAbs_natCast]⟩
 cases neg
 ·exact decide_eq_false (by show ¬(od M:Int)<0;omega)
 ·exact decide_eq_true (by show -(od M:Int)<0;omega)
end Go.Ulp
namespace Go.Proofs.YtfphmlmgjhebjaaGreatDoor
open Go.RowKit Go.Ulp
set_option maxHeartbeats 1000000
set_option maxRecDepth 100000
theorem tz32_any (x:Nat) (hx:x<4294967296) (hx0:x≠0) (w:World) (hT:Tab 1 w):
 Calls Tryz.prog 219 #[.int .u32 (x:Int)] w fun e w'=>e=.returned (.int .i64 (tw x:Int))∧w=w':=by
 obtain ⟨hlow,hk⟩:=Lib.lowest_bit 32 x hx0 hx
 obtain ⟨hi,htab⟩:=Lib.deBruijn32_at _ hk
 have hcell:=hT _ hi
 rw [htab] at hcell
 have key:=tz32_key x _ hx hx0 hlow
 have hxb:((x:Int)==0)=false:=beq_eq_false_iff_ne.2 (by omega)
 have HE:=hid (ctz_tw x hx0 hx).1
 obtain ⟨c,hc⟩: ∃c,c=Lib.ctz 32 x:=⟨_,rfl⟩
 rw [←hc] at hcell key hi HE hk
 obtain ⟨idx,hidx⟩: ∃i,i=2^c*125613361%4294967296/134217728:=⟨_,rfl⟩
 rw [←hidx] at hi hcell key
 have HI:=hid hidx
 clear hlow htab hc hidx hT
 go_enter Tryz.func219,Tryz.ntmps219
 go_wp2_with (simp only [key])
 go_ret
 exact ⟨ret_int (by rw [HE.out]),rfl⟩
theorem norm_zero (neg:Bool) (a0:Option Addr) (c0:Nat) (e:Int) (w:World):
 Calls Tryz.prog 156 #[.bool neg,.slice a0 (limbs 0).length c0,.int .i64 e] w (RetVD w (nrm (sg neg ((0:Nat):Int)) e)):=by
 rw [nrm_sg_zero,limbs_zero]
 go_enter Tryz.func156,Tryz.ntmps156
 go_wp2_with fail
 refine bodyPost_ret (by simp [results,Tryz.results156,go_sem];try rfl) rfl ?_
 exact ⟨_,rfl,⟨none,0,rfl,Ns.nil⟩,below_alloc _ _⟩
theorem normD_any (neg:Bool) (a0:Option Addr) (c0 M:Nat) (e:Int) (w:World) (hN:Ns .u32 w a0 c0 (limbs M)) (hm:(limbs M).length≤1000000) (he: -1000000000≤e∧e≤1000000000) (hT:Tab 1 w):
 Calls Tryz.prog 156 #[.bool neg,.slice a0 (limbs M).length c0,.int .i64 e] w (RetVD w (nrm (sg neg (M:Int)) e)):=by
 by_cases h0:M=0
 ·subst h0;exact norm_zero neg a0 c0 e w
 have hpos:0<M:=by omega
 have hl0:0<(limbs M).length:=(digs_len_pos 4294967296 (by omega) M).2 hpos
 have hlb:(((limbs M).length:Int)==0)=false:=beq_eq_false_iff_ne.2 (by omega)
 have hlast:(limbs M).getD ((limbs M).length-1) 0≠0:=by
  rcases (trim_iff (limbs M)).1 (limbs_trim M) with h|h
  ·omega
  ·exact h
 have LL:=hid (limbs_lim M)
 have TW:=hid (tw_limbs M)
 obtain ⟨b0,o0,rfl,hc0⟩:=hN.2.2 hl0
 have HN:=hid hN
 have HT:=hid hT
 have yb0:=below_alloc w (.cells #[.bool false,.slice none 0 0,.int .i64 0] 67)
 have zR0:QL 67 (w.alloc (.cells #[.bool false,.slice none 0 0,.int .i64 0] 67)) w.heap.size false (.slice none 0 0) 0:=QL.made rfl
 have hcap:=hN.1
 have hcap2:=hN.2.1
 unfold maxLen at hcap2
 have RR:=hid (fun w h (hk:tw M≤4294967296000)=>right_any (some ⟨b0,o0,none⟩) c0 M (tw M) w h (by omega) hk)
 have TZ:=hid (fun x h1 h2 w h=>tz32_any x h1 h2 w h)
 have ND:=hid (nrm_sg neg M e hpos)
 have SG:=hid (sg_od_lt neg M hpos)
 obtain ⟨n,hn⟩: ∃n,n=(limbs M).length:=⟨_,rfl⟩
 have HNL:=hid hn
 have hc:=hid (fun i (h:i<n)=>((yb0.cell (p:=⟨b0,o0+i,none⟩) (World.block_lt_of_cell? _ _ (hc0 i (by omega)))).trans (hc0 i (by omega))))
 have HLA:=hid hlast
 rw [←hn] at hlb hcap hm hl0 RR ⊢
 clear hN hT hn h0 hpos hlast hc0
 go_enter Tryz.func156,Tryz.ntmps156
 go_upto_block 0 with fail
 go_cut [7] (fun s7 wx=> ∃i:Nat,s7=.int .i64 (32*(i:Int))∧i<n∧(limbs M).getD i 0≠0∧(∀j,j<i→(limbs M).getD j 0=0)∧wx=w.alloc (.cells #[.bool false,.slice none 0 0,.int .i64 0] 67))
 case first=>
  go_wp2_with fail
  go_loop [7] (fun s7=> ∃i:Nat,s7=.int .i64 (32*(i:Int))∧i<n∧(∀j,j<i→(limbs M).getD j 0=0)) (fun s7=>(32*n-(intOf s7).toNat))
  case atStart=>exact ⟨0,rfl,hl0,fun j hj=>by omega⟩
  case round=>
   obtain ⟨i,rfl,hi,hz⟩:=hrel
   have hcell:=hc.out i hi
   unfold lb at hcell
   obtain ⟨x,hx⟩: ∃x,x=(limbs M).getD i 0:=⟨_,rfl⟩
   rw [←hx] at hcell
   have e1:32*(i:Int)/32=(i:Int):=by omega
   have HX:=hid hx
   have HZ:=hid hz
   clear hx hz
   by_cases hx0:x=0
   ·subst hx0
    have hin:i+1<n:=by
     rcases Nat.lt_or_ge (i+1) n with h|h
     ·exact h
     ·have:i=n-1:=by omega
      have h9:=HX.out
      rw [this,HNL.out] at h9
      exact absurd h9.symm HLA.out
    go_wp2_with fail
    go_round
    case rel=>exact ⟨i+1,by rw [show 32*(i:Int)+32=32*((i+1:Nat):Int) by omega],hin,fun j hj=>by
     by_cases hji:j=i
     ·rw [hji,←HX.out]
     ·exact HZ.out j (by omega)⟩
    case measure=>simp [intOf];omega
   ·have hxb:((x:Int)==0)=false:=beq_eq_false_iff_ne.2 (by omega)
    have HX0:=hid hx0
    clear hx0
    go_wp2_with fail
    go_meet
    exact ⟨i,rfl,hi,by rw [←HX.out];exact HX0.out,HZ.out,rfl⟩
 case rest=>
  obtain ⟨i,rfl,hi,hx0,hz,rfl⟩:=hcut
  have hcell:=hc.out i hi
  unfold lb at hcell
  obtain ⟨x,hx⟩: ∃x,x=(limbs M).getD i 0:=⟨_,rfl⟩
  rw [←hx] at hcell hx0
  have hx1:x<4294967296:=by rw [hx];exact LL.out.getD (by omega) i
  have e1:32*(i:Int)/32=(i:Int):=by omega
  have htw:tw M=32*i+tw x:=TW.out i x (by rw [←HNL.out];exact hi) hz hx.symm hx0
  have ht32:=(ctz_tw x hx0 hx1).2
  have TZx:=hid (fun w h=>TZ.out x hx1 hx0 w h)
  obtain ⟨tM,htM⟩: ∃t,t=tw M:=⟨_,rfl⟩
  obtain ⟨tx,htx⟩: ∃t,t=tw x:=⟨_,rfl⟩
  rw [←htM] at RR ND htw
  rw [←htx] at TZx htw ht32
  have e2:32*(i:Int)+(tx:Int)=(tM:Int):=by omega
  have hMo:M/2^tM=od M:=by rw [htM];rfl
  have RRM:=hid (fun w h=>RR.out w h (by omega))
  rw [hMo] at RRM
  have hcapM:=hid hcap
  clear hx0 hz hx TW htM htx hMo RR TZ htw
  go_upto_region 8 with (first
   |(go_at_call 219;(with_reducible refine (TZx.out _ (HT.out.below yb0)).mono ?_);rintro en w1 ⟨rfl,rfl⟩)
   |(go_at_call 213;(with_reducible refine (RRM.out _ (HN.out.below yb0)).mono ?_);rintro en w2 ⟨a2,rfl,hN2,hb2⟩))
  have zR:=zR0.below hb2
  have yb2:=below_trans yb0 hb2
  obtain ⟨⟨k0,k1,f0,f1,hs2⟩,k2,f2⟩:=id zR
  go_wp2_with fail
  refine bodyPost_ret (by simp [results,Tryz.results156,go_sem,k0,k1,k2];try rfl) rfl ?_
  rw [ND.out]
  refine ⟨_,rfl,⟨a2,(limbs (od M)).length,?_,?_⟩,((yb2.setCell (by first|omega|(simp;done)|(simp;omega)) _).setCell (by first|omega|(simp;done)|(simp;omega)) _).setCell (by first|omega|(simp;done)|(simp;omega)) _⟩
  ·simp only [SG.out.1,SG.out.2]
  ·simp only [SG.out.2]
   exact hN2.set3 zR (by intro x h;cases h) _ _ _
end Go.Proofs.YtfphmlmgjhebjaaGreatDoor
namespace Go.Ulp
open Go.RowKit
theorem or_hidden (f:Int) (h0:0≤f) (h1:f<4503599627370496):bits .or .u64 f 4503599627370496=f+4503599627370496:=by
 rw [bits_comm_or f _ h0 (by omega) (by omega) (by omega),or_join52 4503599627370496 f (by omega) (by omega) h0 (by omega) (by omega) h1];omega
end Go.Ulp
namespace Go.Proofs.YtfphmlmgjhebjaaGreatDoor
open Go.RowKit Go.Ulp
set_option maxHeartbeats 1000000
set_option maxRecDepth 100000
theorem value_any (x:Int) (h0:0≤x) (h1:x<18446744073709551616) (w:World) (hT:Tab 1 w):
 Calls Tryz.prog 96 #[.int .u64 x] w (RetVD w (fv x)):=by
 have PA:=hid (fun w=>parts_any x h0 h1 w)
 have hfb:=fracOf_bd x
 have heb:=expOf_bd x
 have hmb:=mantOf_bd x
 obtain ⟨m,hm⟩:=Int.eq_ofNat_of_zero_le hmb.1
 have OF:=hid (fun w=>natOf_any m (by omega) w)
 have hml:(limbs m).length≤1000000:=by
  have:(limbs m).length≤2:=(digs_len_le 4294967296 (by omega) m 2).2 (by omega)
  omega
 have hdb:=dexp_bd x
 have NO:=hid (show ∀a c w,Ns .u32 w a c (limbs m)→Tab 1 w→Calls Tryz.prog 156 #[.bool (negB x),.slice a (limbs m).length c,.int .i64 (max (expOf x) 1-1075)] w (RetVD w (fv x)) from fun a c w k t=>by
  have:=normD_any (negB x) a c m (dexp x) w k hml (by omega) t
  unfold fv;rw [hm];exact this)
 have yb0:=below_alloc w (.cells #[.bool false,.slice none 0 0,.int .i64 0] 67)
 have zR0:QL 67 (w.alloc (.cells #[.bool false,.slice none 0 0,.int .i64 0] 67)) w.heap.size false (.slice none 0 0) 0:=QL.made rfl
 have HT:=hid hT
 by_cases hp:0<expOf x
 ·have hor:=or_hidden (fracOf x) hfb.1 hfb.2
  have hmv:fracOf x+4503599627370496=(m:Int):=by
   have:=hm;unfold mantOf at this;rw [if_pos hp] at this;exact this
  generalize fracOf x=fr at *
  generalize negB x=ng at *
  generalize expOf x=ex at *
  generalize fv x=D at *
  clear hT hm hmb hml hdb
  go_enter Tryz.func96,Tryz.ntmps96
  go_wp2_with (first
   |(go_at_call 87;(with_reducible refine (PA.out _).mono ?_);rintro en w1 ⟨rfl,rfl⟩)
   |(go_at_call 95;(with_reducible refine (OF.out _).mono ?_);rintro en w2 ⟨a2,rfl,hN2,hb2⟩;have yb2:=below_trans yb0 hb2;have zR2:=zR0.below hb2)
   |(go_at_call 156;(with_reducible refine (NO.out _ _ _ hN2 (HT.out.below yb2)).mono ?_);rintro en w3 ⟨v3,rfl,⟨a3,c3,rfl,hN3⟩,hb3⟩;have yb3:=below_trans yb2 hb3;have zR3:=zR2.below hb3;obtain ⟨⟨k0,k1,f0,f1,hs2⟩,k2,f2⟩:=id zR3))
  refine bodyPost_ret (by simp [results,Tryz.results96,go_sem,k0,k1,k2];try rfl) rfl ?_
  exact ⟨_,rfl,⟨a3,c3,rfl,hN3.set3 zR3 (by intro x h;cases h) _ _ _⟩,((yb3.setCell (by first|omega|(simp;done)|(simp;omega)) _).setCell (by first|omega|(simp;done)|(simp;omega)) _).setCell (by first|omega|(simp;done)|(simp;omega)) _⟩
 ·have hmv:fracOf x=(m:Int):=by
   have:=hm;unfold mantOf at this;rw [if_neg hp] at this;exact this
  generalize fracOf x=fr at *
  generalize negB x=ng at *
  generalize expOf x=ex at *
  generalize fv x=D at *
  clear hT hm hmb hml hdb
  subst hmv
  go_enter Tryz.func96,Tryz.ntmps96
  go_wp2_with (first
   |(go_at_call 87;(with_reducible refine (PA.out _).mono ?_);rintro en w1 ⟨rfl,rfl⟩)
   |(go_at_call 95;(with_reducible refine (OF.out _).mono ?_);rintro en w2 ⟨a2,rfl,hN2,hb2⟩;have yb2:=below_trans yb0 hb2;have zR2:=zR0.below hb2)
   |(go_at_call 156;(with_reducible refine (NO.out _ _ _ hN2 (HT.out.below yb2)).mono ?_);rintro en w3 ⟨v3,rfl,⟨a3,c3,rfl,hN3⟩,hb3⟩;have yb3:=below_trans yb2 hb3;have zR3:=zR2.below hb3;obtain ⟨⟨k0,k1,f0,f1,hs2⟩,k2,f2⟩:=id zR3))
  refine bodyPost_ret (by simp [results,Tryz.results96,go_sem,k0,k1,k2];try rfl) rfl ?_
  exact ⟨_,rfl,⟨a3,c3,rfl,hN3.set3 zR3 (by intro x h;cases h) _ _ _⟩,((yb3.setCell (by first|omega|(simp;done)|(simp;omega)) _).setCell (by first|omega|(simp;done)|(simp;omega)) _).setCell (by first|omega|(simp;done)|(simp;omega)) _⟩
end Go.Proofs.YtfphmlmgjhebjaaGreatDoor
namespace Go.Ulp
open Go.RowKit
theorem dy_len (D:Dy):(limbs D.1.natAbs).length=0↔D.1=0:=by
 rw [List.length_eq_zero_iff,limbs_nil];omega
def Fact.vd (D:Dy):Fact:=⟨fun v w=>VD w D v,fun _ _ _ h hb=>h.below hb⟩
def Fact.li (m:Nat):Fact:=⟨fun v w=> ∃ao cap,v=.slice ao (limbs m).length cap∧Ns .u32 w ao cap (limbs m),fun _ _ _ h hb=>by
 obtain ⟨ao,cap,h1,h2⟩:=h
 exact ⟨ao,cap,h1,h2.below hb⟩⟩
theorem QL.farD {t:TypeId} {w:World} {g:Nat} {n:Bool} {v:Value} {k:Int} (h:QL t w g n v k) (a:Addr) (u:Value) (hne:g≠a.block):QL t (w.setCell a u) g n v k:=by
 refine ⟨h.1.far a u hne,?_,?_⟩
 ·rw [World.cell?_setCell_other (h:=fun e=>hne (by rw [e]))];exact h.2.1
 ·rw [frozen_setCell];exact h.2.2
theorem QL.set0D {t:TypeId} {w:World} {g:Nat} {n:Bool} {v:Value} {k:Int} (h:QL t w g n v k) (u:Bool):QL t (w.setCell ⟨g,0,none⟩ (.bool u)) g u v k:=
 ⟨h.1.set0 u,(cell_set_ne (by omega)).trans h.2.1,(frozen_setCell _ _ _ _).trans h.2.2⟩
theorem QL.set1D {t:TypeId} {w:World} {g:Nat} {n:Bool} {v:Value} {k:Int} (h:QL t w g n v k) (u:Value):QL t (w.setCell ⟨g,1,none⟩ u) g n u k:=
 ⟨h.1.set1 u,(cell_set_ne (by omega)).trans h.2.1,(frozen_setCell _ _ _ _).trans h.2.2⟩
end Go.Ulp
namespace Go.Proofs.YtfphmlmgjhebjaaGreatDoor
open Go.RowKit Go.Ulp
set_option maxHeartbeats 1000000
set_option maxRecDepth 100000
end Go.Proofs.YtfphmlmgjhebjaaGreatDoor
namespace Go.Ulp
open Go.RowKit
theorem sg_self (x:Int):sg (decide (x<0)) (x.natAbs:Int)=x:=by
 rcases Int.lt_or_le x 0 with h|h
 ·rw [decide_eq_true h];show -(x.natAbs:Int)=x;omega
 ·rw [decide_eq_false (by omega)];show (x.natAbs:Int)=x;omega
end Go.Ulp
namespace Go.Proofs.YtfphmlmgjhebjaaGreatDoor
open Go.RowKit Go.Ulp
set_option maxHeartbeats 1000000
set_option maxRecDepth 100000
end Go.Proofs.YtfphmlmgjhebjaaGreatDoor
namespace Go.Ulp
open Go.RowKit
def bndB (D:Dy):Bool:=dyB (limbs D.1.natAbs).length D.2
end Go.Ulp
namespace Go.Proofs.YtfphmlmgjhebjaaGreatDoor
open Go.RowKit Go.Ulp
set_option maxHeartbeats 1000000
set_option maxRecDepth 100000
end Go.Proofs.YtfphmlmgjhebjaaGreatDoor
namespace Go.Ulp
open Go.RowKit
theorem limbs_le_bits (M n:Nat):(limbs M).length≤n↔M<2^(32*n):=by
 have h:=digs_len_le 4294967296 (by omega) M n
 rw [Nat.pow_mul];exact h
def DV (t:TypeId) (w:World) (g:Nat) (D:Dy):Prop:= ∃am cm,QL t w g (decide (D.1<0)) (.slice am (limbs D.1.natAbs).length cm) D.2∧Ns .u32 w am cm (limbs D.1.natAbs)
theorem DV.below {t:TypeId} {w w':World} {g:Nat} {D:Dy} (h:DV t w g D) (hb:Below w.heap.size w w'):DV t w' g D:=by
 obtain ⟨am,cm,h1,h2⟩:=h;exact ⟨am,cm,h1.below hb,h2.below hb⟩
theorem QL.put {t:TypeId} {w:World} {g:Nat} {n:Bool} {v:Value} {k:Int} (h:QL t w g n v k) (n':Bool) (v':Value) (k':Int):
 QL t (((w.setCell ⟨g,0,none⟩ (.bool n')).setCell ⟨g,1,none⟩ v').setCell ⟨g,2,none⟩ (.int .i64 k')) g n' v' k':=by
 have h1:=(h.set0D n').set1D v'
 refine ⟨⟨(cell_set_ne (by omega)).trans h1.1.1,(cell_set_ne (by omega)).trans h1.1.2.1,?_,?_,?_⟩,?_,?_⟩
 ·rw [frozen_setCell];exact h1.1.2.2.1
 ·rw [frozen_setCell];exact h1.1.2.2.2.1
 ·exact h1.1.2.2.2.2.setCell _ _
 ·exact World.cell?_setCell_same _ _ _ ((cell_set_ne (by omega)).trans ((cell_set_ne (by omega)).trans h.2.1))
 ·rw [frozen_setCell];exact h1.2.2
theorem DV.put {t:TypeId} {w:World} {g:Nat} {n:Bool} {v:Value} {k:Int} {D:Dy} {am:Option Addr} {cm:Nat} (h:QL t w g n v k) (hN:Ns .u32 w am cm (limbs D.1.natAbs)) (hv: ∀x,v≠ .int .u32 x):
 DV t (((w.setCell ⟨g,0,none⟩ (.bool (decide (D.1<0)))).setCell ⟨g,1,none⟩ (.slice am (limbs D.1.natAbs).length cm)).setCell ⟨g,2,none⟩ (.int .i64 D.2)) g D:=
 ⟨am,cm,h.put _ _ _,hN.set3 h hv _ _ _⟩
def Fact.q0 (B:Nat) (t:TypeId):Fact:=⟨fun v w=> ∃g,v=.pointer (some ⟨g,0,none⟩)∧B≤g∧QL t w g false (.slice none 0 0) 0,fun _ _ _ h hb=>by
 obtain ⟨g,h1,h2,h3⟩:=h;exact ⟨g,h1,h2,h3.below hb⟩⟩
theorem Nz.set3Q {t e:TypeId} {w:World} {ao:Option Addr} {cap:Nat} {L:List Nat} (h:Nz e w ao cap L) {g:Nat} {n:Bool} {v:Value} {k:Int} (z:QL t w g n v k) (hne:t≠e) (u0 u1 u2:Value):
 Nz e (((w.setCell ⟨g,0,none⟩ u0).setCell ⟨g,1,none⟩ u1).setCell ⟨g,2,none⟩ u2) ao cap L:=
 ((h.setCell z.1.2.2.2.2 hne _ _).setCell (z.1.2.2.2.2.setCell _ _) hne _ _).setCell ((z.1.2.2.2.2.setCell _ _).setCell _ _) hne _ _
theorem Below.put3 {B:Nat} {w w':World} (h:Below B w w') {g:Nat} (hg:B≤g) (u0 u1 u2:Value):Below B w (((w'.setCell ⟨g,0,none⟩ u0).setCell ⟨g,1,none⟩ u1).setCell ⟨g,2,none⟩ u2):=
 ((h.setCell hg _).setCell hg _).setCell hg _
theorem tw_lt {n A:Nat} (h0:0<n) (h:n<2^A):tw n<A:=by
 have h1:=(od_tw n h0).1
 have h2:=od_pos n h0
 have h3:2^tw n≤n:=by
  conv=>rhs;rw [←h1]
  exact Nat.le_mul_of_pos_left _ h2
 exact (Nat.pow_lt_pow_iff_right (a:=2) (by omega)).1 (Nat.lt_of_le_of_lt h3 h)
theorem nrm_bd (y e:Int) (A:Nat) (h:y.natAbs<2^A):(nrm y e).1.natAbs<2^A∧((nrm y e).1=0∧(nrm y e).2=0∨e≤(nrm y e).2∧(nrm y e).2<e+A):=by
 by_cases h0:y=0
 ·subst h0;exact ⟨h,.inl ⟨rfl,rfl⟩⟩
 ·refine ⟨by rw [nrm_abs y e h0];exact Nat.lt_of_le_of_lt (od_le _) h,.inr ?_⟩
  have h1:=tw_lt (n:=y.natAbs) (by omega) h
  have h2:(nrm y e).2=e+tw y.natAbs:=by unfold nrm;rw [if_neg h0]
  rw [h2];omega
theorem fv_bd (x:Int) (h0:0≤x) (h1:x<18446744073709551616):bndB (fv x)=true∧((fv x).1.natAbs<2^53∧ -1074≤(fv x).2∧(fv x).2≤1024):=by
 have hm:=mantOf_bd x
 have he:=dexp_bd x
 have hA:(sg (negB x) (mantOf x)).natAbs<2^53:=by rw [sg_abs];omega
 obtain ⟨k1,k2⟩:=nrm_bd (sg (negB x) (mantOf x)) (dexp x) 53 hA
 have k3:(fv x).1.natAbs<2^53∧ -1074≤(fv x).2∧(fv x).2≤1024:=⟨k1,by unfold fv;omega,by unfold fv;omega⟩
 refine ⟨?_,k3⟩
 have hl:(limbs (fv x).1.natAbs).length≤2:=(limbs_le_bits _ 2).2 (Nat.lt_of_lt_of_le k3.1 (Nat.pow_le_pow_right (by omega) (by omega)))
 unfold bndB dyB
 exact decide_eq_true ⟨by omega,by omega,by omega⟩
theorem limbs_short1 (A n:Nat) (hn:A≤32*n) (M:Nat) (h:M<2^A):(limbs M).length≤n:=
 (limbs_le_bits M n).2 (Nat.lt_of_lt_of_le h (Nat.pow_le_pow_right (by omega) hn))
def rdL (w:World) (v:Value):Nat:=
 match v with
 | .slice (some a) l _=>lval ((List.range l).map fun i=>(intOf ((w.cell? ⟨a.block,a.off+i,none⟩).getD undef)).toNat)
 |_=>0
theorem rdL_eq {w:World} {ao:Option Addr} {cap:Nat} {L:List Nat} (h:Ns .u32 w ao cap L):rdL w (.slice ao L.length cap)=lval L:=by
 obtain ⟨h1,h2,h3⟩:=h
 rcases Nat.eq_zero_or_pos L.length with hl|hl
 ·have:L= []:=List.length_eq_zero_iff.1 hl
  subst this
  cases ao<;>rfl
 ·obtain ⟨b,off,rfl,hc⟩:=h3 hl
  show lval ((List.range L.length).map _)=lval L
  congr 1
  refine List.ext_getElem (by simp) (fun i k1 k2=>?_)
  rw [List.getElem_map,List.getElem_range,hc i k2]
  show (lb L i).toNat=L[i]
  unfold lb
  rw [Int.toNat_natCast,List.getD_eq_getElem?_getD,List.getElem?_eq_getElem k2];rfl
end Go.Ulp
namespace Go.Proofs.YtfphmlmgjhebjaaGreatDoor
open Go.RowKit Go.Ulp
set_option maxHeartbeats 4000000
set_option maxRecDepth 100000
end Go.Proofs.YtfphmlmgjhebjaaGreatDoor
namespace Go.Proofs
open Go.Shelf
def Tryz.lays156_ren:Go.Shelf.Ren:=⟨fun|156=>223|165=>129|166=>130|169=>132|240=>190|241=>191|276=>237|277=>238|n=>n,fun|31=>177|9=>9|3=>3|4=>4|0=>0|20=>20|72=>163|76=>167|70=>161|37=>105|75=>166|127=>220|164=>254|5=>5|80=>170|n=>n,fun|n=>n⟩
theorem Tryz.lays156:Go.Proofs.Lays.n156 Tryz.prog Tryz.lays156_ren:= {
 mixed:=by kernel_rfl
 f156:=Tryz.func223.trans (congrArg some (by kernel_rfl))
 f165:=Tryz.func129.trans (congrArg some (by kernel_rfl))
 f166:=Tryz.func130.trans (congrArg some (by kernel_rfl))
 f169:=Tryz.func132.trans (congrArg some (by kernel_rfl))
 f240:=Tryz.func190.trans (congrArg some (by kernel_rfl))
 f241:=Tryz.func191.trans (congrArg some (by kernel_rfl))
 f276:=Tryz.func237.trans (congrArg some (by kernel_rfl))
 f277:=Tryz.func238.trans (congrArg some (by kernel_rfl))
 t0:=Tryz.underlying0
 a0:=Tryz.isAgg0
 z0:=Tryz.sizeOf0
 v0:=Tryz.zeroValue0
 t3:=Tryz.underlying3
 a3:=Tryz.isAgg3
 z3:=Tryz.sizeOf3
 v3:=Tryz.zeroValue3
 t4:=Tryz.underlying4
 a4:=Tryz.isAgg4
 z4:=Tryz.sizeOf4
 v4:=Tryz.zeroValue4
 t9:=Tryz.underlying9
 a9:=Tryz.isAgg9
 z9:=Tryz.sizeOf9
 v9:=Tryz.zeroValue9
 t20:=Tryz.underlying20
 a20:=Tryz.isAgg20
 z20:=Tryz.sizeOf20
 v20:=Tryz.zeroValue20
 t31:=Tryz.underlying177
 a31:=Tryz.isAgg177
 z31:=Tryz.sizeOf177
 v31:=Tryz.zeroValue177
 t37:=Tryz.underlying105
 a37:=Tryz.isAgg105
 z37:=Tryz.sizeOf105
 v37:=Tryz.zeroValue105
 t70:=Tryz.underlying161
 a70:=Tryz.isAgg161
 z70:=Tryz.sizeOf161
 v70:=Tryz.zeroValue161
 t72:=Tryz.underlying163
 a72:=Tryz.isAgg163
 z72:=Tryz.sizeOf163
 v72:=Tryz.zeroValue163
 t75:=Tryz.underlying166
 a75:=Tryz.isAgg166
 z75:=Tryz.sizeOf166
 v75:=Tryz.zeroValue166
 t76:=Tryz.underlying167
 a76:=Tryz.isAgg167
 z76:=Tryz.sizeOf167
 v76:=Tryz.zeroValue167
 t127:=Tryz.underlying220
 a127:=Tryz.isAgg220
 z127:=Tryz.sizeOf220
 v127:=Tryz.zeroValue220
 t164:=Tryz.underlying254
 a164:=Tryz.isAgg254
 z164:=Tryz.sizeOf254
 v164:=Tryz.zeroValue254}
theorem Tryz.Builder_Extra_156:Builder.Extra Tryz.prog Tryz.lays156_ren:= {
 sizeBuilder:=by kernel_rfl
 liesBuilder:=by kernel_rfl
 t5:=Tryz.underlying5
 a5:=Tryz.isAgg5
 z5:=Tryz.sizeOf5
 v5:=Tryz.zeroValue5
 infoByte:=by kernel_rfl
 cellsByte:=by kernel_rfl
 sizeByte:=by kernel_rfl
 neB5:=by decide}
open Go.RowKit in
theorem Tryz.strings_Join (bk o c:Nat) (xs:List ByteArray) (sep:ByteArray) (w:World) (hcells: ∀(j:Nat) x,xs[j]? =some x→w.cell? ⟨bk,o+j,none⟩=some (.string x)) (hbk:bk<w.heap.size) (hN:xs.length≤140737488355328) (hcap:xs.length≤c) (hlen:(Lib.join (xs.map (·.data.toList)) sep.data.toList).length≤140737488355328):
 Calls Tryz.prog 223 #[.slice (some ⟨bk,o,none⟩) xs.length c,.string sep] w fun e w'=>e=.returned (.string ⟨(Lib.join (xs.map (·.data.toList)) sep.data.toList).toArray⟩)∧Below w.heap.size w w':=Any.strings_Join Tryz.lays156 Tryz.Builder_Extra_156 bk o c xs sep w hcells hbk hN hcap hlen
def Tryz.laysM171_ren:Go.Shelf.Ren:=⟨fun|171=>168|243=>227|246=>245|283=>259|284=>260|285=>261|286=>262|129=>266|317=>265|318=>267|319=>268|320=>269|337=>219|338=>270|n=>n,fun|3=>3|9=>9|2=>2|4=>4|171=>273|0=>0|53=>22|37=>105|5=>5|173=>275|212=>285|51=>181|20=>20|213=>286|46=>62|232=>261|233=>291|n=>n,fun|17=>6|18=>1|19=>7|n=>n⟩
theorem Tryz.laysM171:Go.Proofs.LaysM.n171 Tryz.prog Tryz.laysM171_ren:= {
 mixed:=by kernel_rfl
 f129:=Tryz.func266.trans (congrArg some (by kernel_rfl))
 f171:=Tryz.func168.trans (congrArg some (by kernel_rfl))
 f243:=Tryz.func227.trans (congrArg some (by kernel_rfl))
 f246:=Tryz.func245.trans (congrArg some (by kernel_rfl))
 f283:=Tryz.func259.trans (congrArg some (by kernel_rfl))
 f284:=Tryz.func260.trans (congrArg some (by kernel_rfl))
 f285:=Tryz.func261.trans (congrArg some (by kernel_rfl))
 f286:=Tryz.func262.trans (congrArg some (by kernel_rfl))
 f317:=Tryz.func265.trans (congrArg some (by kernel_rfl))
 f318:=Tryz.func267.trans (congrArg some (by kernel_rfl))
 f319:=Tryz.func268.trans (congrArg some (by kernel_rfl))
 f320:=Tryz.func269.trans (congrArg some (by kernel_rfl))
 f337:=Tryz.func219.trans (congrArg some (by kernel_rfl))
 f338:=Tryz.func270.trans (congrArg some (by kernel_rfl))
 t0:=Tryz.underlying0
 a0:=Tryz.isAgg0
 z0:=Tryz.sizeOf0
 v0:=Tryz.zeroValue0
 t2:=Tryz.underlying2
 a2:=Tryz.isAgg2
 z2:=Tryz.sizeOf2
 v2:=Tryz.zeroValue2
 t3:=Tryz.underlying3
 a3:=Tryz.isAgg3
 z3:=Tryz.sizeOf3
 v3:=Tryz.zeroValue3
 t4:=Tryz.underlying4
 a4:=Tryz.isAgg4
 z4:=Tryz.sizeOf4
 v4:=Tryz.zeroValue4
 t5:=Tryz.underlying5
 a5:=Tryz.isAgg5
 z5:=Tryz.sizeOf5
 v5:=Tryz.zeroValue5
 t9:=Tryz.underlying9
 a9:=Tryz.isAgg9
 z9:=Tryz.sizeOf9
 v9:=Tryz.zeroValue9
 t20:=Tryz.underlying20
 a20:=Tryz.isAgg20
 z20:=Tryz.sizeOf20
 v20:=Tryz.zeroValue20
 t37:=Tryz.underlying105
 a37:=Tryz.isAgg105
 z37:=Tryz.sizeOf105
 v37:=Tryz.zeroValue105
 t46:=Tryz.underlying62
 a46:=Tryz.isAgg62
 z46:=Tryz.sizeOf62
 v46:=Tryz.zeroValue62
 t51:=Tryz.underlying181
 a51:=Tryz.isAgg181
 z51:=Tryz.sizeOf181
 v51:=Tryz.zeroValue181
 t53:=Tryz.underlying22
 a53:=Tryz.isAgg22
 z53:=Tryz.sizeOf22
 v53:=Tryz.zeroValue22
 t171:=Tryz.underlying273
 a171:=Tryz.isAgg273
 z171:=Tryz.sizeOf273
 v171:=Tryz.zeroValue273
 t173:=Tryz.underlying275
 a173:=Tryz.isAgg275
 z173:=Tryz.sizeOf275
 v173:=Tryz.zeroValue275
 t212:=Tryz.underlying285
 a212:=Tryz.isAgg285
 z212:=Tryz.sizeOf285
 v212:=Tryz.zeroValue285
 t213:=Tryz.underlying286
 a213:=Tryz.isAgg286
 z213:=Tryz.sizeOf286
 t232:=Tryz.underlying261
 a232:=Tryz.isAgg261
 z232:=Tryz.sizeOf261
 v232:=Tryz.zeroValue261
 t233:=Tryz.underlying291
 a233:=Tryz.isAgg291
 z233:=Tryz.sizeOf291
 v233:=Tryz.zeroValue291
 g17:=by kernel_rfl
 g18:=by kernel_rfl
 g19:=by kernel_rfl
 i0:=by kernel_rfl
 i2:=by kernel_rfl
 i3:=by kernel_rfl
 i4:=by kernel_rfl
 i5:=by kernel_rfl
 i9:=by kernel_rfl
 i20:=by kernel_rfl
 i37:=by kernel_rfl
 i46:=by kernel_rfl
 i51:=by kernel_rfl
 i53:=by kernel_rfl
 i171:=by kernel_rfl
 i173:=by kernel_rfl
 i212:=by kernel_rfl
 i232:=by kernel_rfl
 i233:=by kernel_rfl
 m17:=by kernel_rfl
 m18:=by kernel_rfl
 m19:=by kernel_rfl}
open Go.RowKit Go.Sort Go.Lib in
theorem Tryz.strconv_Itoa (n : Int) (h0 : -9223372036854775808 ≤ n) (h1 : n ≤ 9223372036854775807) (w : World) (htab : Lib.TabIs Tryz.prog w "internal/strconv.uint64pow10" .u64 Lib.pow10Tab) :
 Calls Tryz.prog 168 #[.int .i64 n] w fun e w'=>e=.returned (.string ⟨(Lib.itoa n).toArray⟩)∧ ∃k os,w'=grow (w.drewN k) os:=Any.strconv_Itoa Tryz.laysM171 n h0 h1 w htab
def Tryz.lays105_ren:Go.Shelf.Ren:=⟨fun|105=>70|212=>128|99=>71|165=>129|166=>130|170=>131|169=>132|263=>188|264=>189|206=>133|240=>190|241=>191|276=>237|277=>238|n=>n,fun|9=>9|3=>3|4=>4|20=>20|0=>0|46=>62|109=>159|5=>5|72=>163|76=>167|51=>181|146=>216|53=>22|148=>218|70=>161|37=>105|75=>166|127=>220|164=>254|80=>170|n=>n,fun|n=>n⟩
theorem Tryz.lays105:Go.Proofs.Lays.n105 Tryz.prog Tryz.lays105_ren:= {
 mixed:=by kernel_rfl
 f99:=Tryz.func71.trans (congrArg some (by kernel_rfl))
 f105:=Tryz.func70.trans (congrArg some (by kernel_rfl))
 f165:=Tryz.func129.trans (congrArg some (by kernel_rfl))
 f166:=Tryz.func130.trans (congrArg some (by kernel_rfl))
 f169:=Tryz.func132.trans (congrArg some (by kernel_rfl))
 f170:=Tryz.func131.trans (congrArg some (by kernel_rfl))
 f206:=Tryz.func133.trans (congrArg some (by kernel_rfl))
 f212:=Tryz.func128.trans (congrArg some (by kernel_rfl))
 f240:=Tryz.func190.trans (congrArg some (by kernel_rfl))
 f241:=Tryz.func191.trans (congrArg some (by kernel_rfl))
 f263:=Tryz.func188.trans (congrArg some (by kernel_rfl))
 f264:=Tryz.func189.trans (congrArg some (by kernel_rfl))
 f276:=Tryz.func237.trans (congrArg some (by kernel_rfl))
 f277:=Tryz.func238.trans (congrArg some (by kernel_rfl))
 t0:=Tryz.underlying0
 a0:=Tryz.isAgg0
 z0:=Tryz.sizeOf0
 v0:=Tryz.zeroValue0
 t3:=Tryz.underlying3
 a3:=Tryz.isAgg3
 z3:=Tryz.sizeOf3
 v3:=Tryz.zeroValue3
 t4:=Tryz.underlying4
 a4:=Tryz.isAgg4
 z4:=Tryz.sizeOf4
 v4:=Tryz.zeroValue4
 t5:=Tryz.underlying5
 a5:=Tryz.isAgg5
 z5:=Tryz.sizeOf5
 v5:=Tryz.zeroValue5
 t9:=Tryz.underlying9
 a9:=Tryz.isAgg9
 z9:=Tryz.sizeOf9
 v9:=Tryz.zeroValue9
 t20:=Tryz.underlying20
 a20:=Tryz.isAgg20
 z20:=Tryz.sizeOf20
 v20:=Tryz.zeroValue20
 t37:=Tryz.underlying105
 a37:=Tryz.isAgg105
 z37:=Tryz.sizeOf105
 v37:=Tryz.zeroValue105
 t46:=Tryz.underlying62
 a46:=Tryz.isAgg62
 z46:=Tryz.sizeOf62
 v46:=Tryz.zeroValue62
 t51:=Tryz.underlying181
 a51:=Tryz.isAgg181
 z51:=Tryz.sizeOf181
 v51:=Tryz.zeroValue181
 t53:=Tryz.underlying22
 a53:=Tryz.isAgg22
 z53:=Tryz.sizeOf22
 v53:=Tryz.zeroValue22
 t70:=Tryz.underlying161
 a70:=Tryz.isAgg161
 z70:=Tryz.sizeOf161
 v70:=Tryz.zeroValue161
 t72:=Tryz.underlying163
 a72:=Tryz.isAgg163
 z72:=Tryz.sizeOf163
 v72:=Tryz.zeroValue163
 t75:=Tryz.underlying166
 a75:=Tryz.isAgg166
 z75:=Tryz.sizeOf166
 v75:=Tryz.zeroValue166
 t76:=Tryz.underlying167
 a76:=Tryz.isAgg167
 z76:=Tryz.sizeOf167
 v76:=Tryz.zeroValue167
 t109:=Tryz.underlying159
 a109:=Tryz.isAgg159
 z109:=Tryz.sizeOf159
 v109:=Tryz.zeroValue159
 t127:=Tryz.underlying220
 a127:=Tryz.isAgg220
 z127:=Tryz.sizeOf220
 v127:=Tryz.zeroValue220
 t146:=Tryz.underlying216
 a146:=Tryz.isAgg216
 z146:=Tryz.sizeOf216
 v146:=Tryz.zeroValue216
 t148:=Tryz.underlying218
 a148:=Tryz.isAgg218
 z148:=Tryz.sizeOf218
 v148:=Tryz.zeroValue218
 t164:=Tryz.underlying254
 a164:=Tryz.isAgg254
 z164:=Tryz.sizeOf254
 v164:=Tryz.zeroValue254}
theorem Tryz.Builder_Extra_105:Builder.Extra Tryz.prog Tryz.lays105_ren:= {
 sizeBuilder:=by kernel_rfl
 liesBuilder:=by kernel_rfl
 t5:=Tryz.underlying5
 a5:=Tryz.isAgg5
 z5:=Tryz.sizeOf5
 v5:=Tryz.zeroValue5
 infoByte:=by kernel_rfl
 cellsByte:=by kernel_rfl
 sizeByte:=by kernel_rfl
 neB5:=by decide}
open Go.RowKit Go.Lib in
theorem Tryz.strings_Repeat (s:ByteArray) (c:Nat) (w:World) (hc:c≤9223372036854775807) (hlen:s.size*c≤140737488355328):
 Calls Tryz.prog 70 #[.string s,.int .i64 c] w fun e w'=>e=.returned (.string ⟨(Lib.repeatL s.data.toList c).toArray⟩)∧Below w.heap.size w w':=Any.strings_Repeat Tryz.lays105 Tryz.Builder_Extra_105 s c w hc hlen
def Tryz.laysNm217_ren:Go.Shelf.Ren:=⟨fun|17=>222|n=>n,fun|24=>177|9=>9|3=>3|4=>4|0=>0|n=>n,fun|n=>n⟩
theorem Tryz.laysNm217:Go.Proofs.Lays2.n17 Tryz.prog Tryz.laysNm217_ren:= {
 mixed:=by kernel_rfl
 f17:=Tryz.func222.trans (congrArg some (by kernel_rfl))
 t0:=Tryz.underlying0
 a0:=Tryz.isAgg0
 z0:=Tryz.sizeOf0
 v0:=Tryz.zeroValue0
 t3:=Tryz.underlying3
 a3:=Tryz.isAgg3
 z3:=Tryz.sizeOf3
 v3:=Tryz.zeroValue3
 t4:=Tryz.underlying4
 a4:=Tryz.isAgg4
 z4:=Tryz.sizeOf4
 v4:=Tryz.zeroValue4
 t9:=Tryz.underlying9
 a9:=Tryz.isAgg9
 z9:=Tryz.sizeOf9
 v9:=Tryz.zeroValue9
 t24:=Tryz.underlying177
 a24:=Tryz.isAgg177
 z24:=Tryz.sizeOf177
 v24:=Tryz.zeroValue177}
open Go.RowKit Go.Lib Go.Sort in
theorem Tryz.slices_Reverse_string (blk off cap:Nat) (zs:List (List UInt8)) (w:World) (hH:Holds encStr w blk off zs.toArray) (hsz:zs.length≤9223372036854775807):
 Calls Tryz.prog 222 #[.slice (some ⟨blk,off,none⟩) zs.length cap] w fun e w'=>e=.returned (.tuple #[])∧ ∃n,w'=putRow encStr (Sort.ahead w n) blk off zs.reverse.toArray:=Any.slices_Reverse_string Tryz.laysNm217 blk off cap zs w hH hsz
end Go.Proofs
