/- ExpoLogs: what the proof leans on, part 23 (Td Ds Dk Rm Se6 Se7 Sg3 Eh0 Eh1 Su1 Su2 Su3 Eh2 Gp26 Tx0). -/
import Derived.Lib.ItoaNum
import Derived.Test.YtehhegbkahnhgaaGreatDoorKExpoLogs2
import Derived.Test.YtehhegbkahnhgaaGreatDoorKExpoLogs7
import Derived.Test.YtehhegbkahnhgaaGreatDoorKExpoLogs8
import Derived.Test.YtehhegbkahnhgaaGreatDoorKExpoLogs9
import Derived.Test.YtehhegbkahnhgaaGreatDoorKExpoLogs11
import Derived.Test.YtehhegbkahnhgaaGreatDoorKExpoLogs14
import Derived.Test.YtehhegbkahnhgaaGreatDoorKExpoLogs15
import Derived.Test.YtehhegbkahnhgaaGreatDoorKExpoLogs18
import Derived.Test.YtehhegbkahnhgaaGreatDoorKExpoLogs19
import Derived.Test.YtehhegbkahnhgaaGreatDoorKExpoLogs21
import Derived.Test.YtehhegbkahnhgaaGreatDoorKExpoLogs22
set_option linter.unusedVariables false
set_option linter.unusedSimpArgs false
namespace Go.Ulp
open Go.RowKit
theorem VD.none (w:World):VD w (0,0) (.agg #[.bool false,.slice none 0 0,.int .i64 0]):=⟨Option.none,0,rfl,Ns.nil⟩
end Go.Ulp
namespace Go.Proofs.YtehhegbkahnhgaaGreatDoor
open Go.RowKit Go.Ulp
set_option maxHeartbeats 1000000
set_option maxRecDepth 100000
end Go.Proofs.YtehhegbkahnhgaaGreatDoor
namespace Go.Ulp
open Go.RowKit
def Fact.ds (n:Bool) (s:Value) (x:Int):Fact:=⟨fun v w=> ∃g,v=.slice (some ⟨g,0,none⟩) 1 1∧DC w g 0 n s x,fun _ _ _ h hb=>by
 obtain ⟨g,h1,h2⟩:=h
 exact ⟨g,h1,h2.below hb⟩⟩
end Go.Ulp
namespace Go.Proofs.YtehhegbkahnhgaaGreatDoor
open Go.RowKit Go.Ulp
set_option maxHeartbeats 2000000
set_option maxRecDepth 100000
end Go.Proofs.YtehhegbkahnhgaaGreatDoor
namespace Go.Ulp
open Go.RowKit
end Go.Ulp
namespace Go.Proofs.YtehhegbkahnhgaaGreatDoor
open Go.RowKit Go.Ulp
set_option maxHeartbeats 1000000
set_option maxRecDepth 100000
end Go.Proofs.YtehhegbkahnhgaaGreatDoor
namespace Go.Ulp
open Go.RowKit
end Go.Ulp
namespace Go.Proofs.YtehhegbkahnhgaaGreatDoor
open Go.RowKit Go.Ulp
set_option maxHeartbeats 2000000
set_option maxRecDepth 100000
theorem zsign_any (a0:Option Addr) (c0:Nat) (x:Int) (w:World) (h0:Nz 3 w a0 c0 (zl x)):
 Calls Tryz.prog 88 #[.agg #[.bool (zneg x),.slice a0 (zl x).length c0]] w fun e w'=>e=.returned (.int .i64 (cmpI x 0))∧Below w.heap.size w w':=by
 have yb0:=below_alloc w (.cells #[.bool (zneg x),.slice a0 (zl x).length c0] 47)
 have h1:=h0.below yb0
 have ZC:=hid (show ∀w,Nz 3 w a0 c0 (zl x)→Calls Tryz.prog 80 #[.agg #[.bool (zneg x),.slice a0 (zl x).length c0],.agg #[.bool false,.slice none 0 0]] w fun e w'=>e=.returned (.int .i64 (cmpI x 0))∧Below w.heap.size w w' from fun w h=>zcmp_any a0 none c0 0 x 0 w h (Nz.nil' none 0 (by decide)))
 have zA:ZL 47 (w.alloc (.cells #[.bool (zneg x),.slice a0 (zl x).length c0] 47)) w.heap.size (zneg x) (.slice a0 (zl x).length c0):=ZL.made rfl
 obtain ⟨j0,j1,-,-,-⟩:=id zA
 clear h0
 go_enter Tryz.func88,Tryz.ntmps88
 go_wp2_with (go_at_call 80;(with_reducible refine (ZC.out _ h1).mono ?_);rintro en w1 ⟨rfl,hb1⟩)
 refine bodyPost_ret (by simp [results,Tryz.results88,go_sem];try rfl) rfl ?_
 exact ⟨rfl,below_trans yb0 hb1⟩
end Go.Proofs.YtehhegbkahnhgaaGreatDoor
namespace Go.Ulp
open Go.RowKit
theorem nrm_inj9 {x y e:Int} (h:nrm x e=nrm y e):x=y:=by
 obtain ⟨k,a1,a2⟩:=nrm_rep x e
 obtain ⟨l,b1,b2⟩:=nrm_rep y e
 by_cases hx:x=0
 ·have h3:(nrm y e).1=0:=by rw [←h,hx];rfl
  rw [hx,(nrm_zero_iff _ _).1 h3]
 ·have hy:y≠0:=fun hy=>hx ((nrm_zero_iff x e).1 (by rw [h,hy];rfl))
  have a2:=a2 hx
  have b2:=b2 hy
  rw [h] at a1 a2
  have:k=l:=by omega
  rw [this] at a1
  exact a1.trans b1.symm
def LnFl (m:Nat) (e:Int) (pl:Nat) (z:Int):Prop:= ∃D W x,0<D∧LnOK m e D W x∧x.1*((2^pl:Nat):Int)/(D:Int)=z∧x.2*((2^pl:Nat):Int)/(D:Int)=z
theorem LnFl.uniq {m:Nat} {e:Int} {pl:Nat} {z y:Int} (h:LnFl m e pl z) (k:LnFl m e pl y):z=y:=by
 obtain ⟨D,W,x,h1,h2,h3,h4⟩:=h
 obtain ⟨D',W',x',k1,k2,k3,k4⟩:=k
 exact h2.uniq k2 h1 k1 pl z y h3 h4 k3 k4
def GoodL (m:Nat) (e:Int) (p:Nat) (D E:Dy):Prop:=20≤p∧p≤34359738368∧ ∃x,LnOK m e (2^p) 100 x∧x.1.natAbs≤2^(p+60)∧x.2.natAbs≤2^(p+60)∧D=nrm x.1 (-(p:Int))∧E=nrm x.2 (-(p:Int))
theorem dyQ_one (m:Nat) (e:Int) (hm:m%2=1) (h:dyQ m e=1):m=1∧e=0:=by
 have a:=dyQ_eq m e
 rw [h,Rat.mul_one] at a
 have b:2^(-e).toNat=m*2^e.toNat:=by
  apply Rat.natCast_inj.1
  rw [cast_mul,two_cast,two_cast]
  exact a
 rcases Int.lt_or_le e 0 with c|c
 ·have d:e.toNat=0:=by omega
  obtain ⟨k,hk⟩: ∃k,(-e).toNat=k+1:=⟨(-e).toNat-1,by omega⟩
  rw [d,hk,Nat.pow_succ,Nat.pow_zero] at b
  omega
 ·have d:(-e).toNat=0:=by omega
  rw [d,Nat.pow_zero] at b
  have f:=Nat.eq_one_of_mul_eq_one_right b.symm
  have g:=Nat.eq_one_of_mul_eq_one_left b.symm
  refine ⟨f,?_⟩
  rcases Nat.eq_zero_or_pos e.toNat with k|k
  ·omega
  ·obtain ⟨j,hj⟩: ∃j,e.toNat=j+1:=⟨e.toNat-1,by omega⟩
   rw [hj,Nat.pow_succ] at g
   omega
theorem goodL_of (m:Nat) (e:Int) (p kA kT:Nat) (hm:0<m) (hmb:m<2^1280) (he: -3000≤e∧e≤3000) (hA:AtOK (lgN m) (m+2^lgS m) p kA) (hT:AtOK 1 3 p kT):
 GoodL m e p (nrm (addI (sgP (atP (frB (lgN m) (m+2^lgS m) (2^p)) p kA) (lgC m)) (sgP (mlP (e+lgS m).natAbs (atP (frB 1 3 (2^p)) p kT)) (decide (e+lgS m<0)))).1 (-(p:Int))) (nrm (addI (sgP (atP (frB (lgN m) (m+2^lgS m) (2^p)) p kA) (lgC m)) (sgP (mlP (e+lgS m).natAbs (atP (frB 1 3 (2^p)) p kT)) (decide (e+lgS m<0)))).2 (-(p:Int))):=by
 have p0:=hA.p0
 have p1:=hA.p1
 have hbl:bl m≤1280:=(bl_le m 1280).2 hmb
 have hs:lgS m≤1280:=by unfold lgS;split<;>omega
 have hn:(e+(lgS m:Int)).natAbs≤8000:=by omega
 have kk:2^36=68719476736:=by decide
 have k1:=hA.k1
 have k2:=hT.k1
 refine ⟨p0,p1,_,prog_ok m e (lgS m) (lgC m) (lgN m) (m+2^lgS m) p kA kT hm (lg_ok m hm) rfl (by omega) hn hA.e1 hT.e1 (by omega) (by omega),?_,?_,rfl,rfl⟩
 all_goals
  have ra:=hA.res
  have rt:=hT.res
  generalize atP (frB (lgN m) (m+2^lgS m) (2^p)) p kA=A at *
  generalize atP (frB 1 3 (2^p)) p kT=B at *
  generalize (e+(lgS m:Int)).natAbs=M at *
  generalize decide (e+(lgS m:Int)<0)=c2 at *
  have h40:2^(p+40)<2^(p+59):=Nat.pow_lt_pow_right (by omega) (by omega)
  have h13: ∀x,x≤2^(p+40)→x*M<2^(p+59):=fun x hx=>Nat.lt_of_le_of_lt (Nat.mul_le_mul hx (show M≤2^13 by omega)) (by rw [←Nat.pow_add];exact Nat.pow_lt_pow_right (by omega) (by omega))
  have sA:=sgP_abs A (lgC m) _ (Nat.lt_of_le_of_lt ra.1 h40) (Nat.lt_of_le_of_lt ra.2 h40)
  have sT:=sgP_abs (mlP M B) c2 _ (h13 _ rt.1) (h13 _ rt.2)
  have e60:2^(p+60)=2^(p+59)*2:=Nat.pow_succ _ _
  unfold addI
  simp only
  omega
end Go.Ulp
namespace Go.Proofs.YtehhegbkahnhgaaGreatDoor
open Go.RowKit Go.Ulp
set_option maxHeartbeats 4000000
set_option maxRecDepth 100000
end Go.Proofs.YtehhegbkahnhgaaGreatDoor
namespace Go.Ulp
open Go.RowKit
def NB (D:Dy):Prop:=(limbs D.1.natAbs).length≤4294967296∧(-100000000000≤D.2∧D.2≤100000000000)∧IsN D
def RetNear (w:World) (mode:Int) (Good:Nat→Dy→Dy→Prop) (en:Ending) (w':World):Prop:= ∃p D E,Good p D E∧rX D mode=rX E mode∧rC D mode=true∧rC E mode=true∧en=.returned (.tuple #[.int .u64 (rX D mode),.bool true,.int .i64 0])∧Below w.heap.size w w'
end Go.Ulp
namespace Go.Proofs.YtehhegbkahnhgaaGreatDoor
open Go.RowKit Go.Ulp
set_option maxHeartbeats 4000000
set_option maxRecDepth 100000
theorem near_any (mode:Int) (fn:Nat) (cp:Value) (Good:Nat→Dy→Dy→Prop) (w:World) (hfn: ∀(p:Int) w,Sem.run Tryz.prog (callFunc fn #[.int .i64 p,cp]) w=.ok (.enter fn #[.int .i64 p,cp]) w)
 (hG1: ∀p D E,Good p D E→NB D∧NB E) (hEnd: ∀p D E,Good p D E→17179869184≤p→rX D mode=rX E mode∧rC D mode=true∧rC E mode=true)
 (hC: ∀(p:Nat) w',256≤p→p≤34359738368→Below w.heap.size w w'→Calls Tryz.prog fn #[.int .i64 (p:Int),cp] w' fun en w''=> ∃D E,Good p D E∧RetVD2 w' D E en w''):
 Calls Tryz.prog 48 #[.int .i64 mode,.func (.func fn) #[] #[cp]] w (RetNear w mode Good):=by
 have HC:=hid hC
 have NU:=hid (fun v D w h (f:NB D)=>numberD_any v D mode w h f.1 f.2.1 f.2.2)
 clear hC
 go_enter Tryz.func48,Tryz.ntmps48
 go_upto_region 1 with fail
 go_wp2_with fail
 go_loopw [7] (fun s7 wr=> ∃p:Nat,s7=.int .i64 (p:Int)∧256≤p∧p≤34359738368∧Below w.heap.size w wr) (fun s7 _=>34359738369-(intOf s7).toNat)
 case atStart=>exact ⟨256,rfl,by omega,by omega,Below.refl _ _⟩
 case round=>
 obtain ⟨p,rfl,hp1,hp2,yr⟩:=hrel
 have HC1:=hid (fun w' hb=>HC.out p w' hp1 hp2 hb)
 have hfn1:=hfn (p:Int)
 go_upto_region 4 with ((with_reducible refine (HC1.out _ yr).mono ?_);rintro en w1 ⟨D,E,hgd,v1,u1,rfl,⟨a1,c1,rfl,n1⟩,⟨a2,c2,rfl,n2⟩,hb1⟩)
 obtain ⟨fD,fE⟩:=hG1 p D E hgd
 have hEn:=hid (hEnd p D E hgd)
 have MD:=hid (fun v w h=>NU.out v D w h fD)
 have ME:=hid (fun v w h=>NU.out v E w h fE)
 clear fD fE hG1 hEnd NU hfn1
 have hgd1:=hid hgd
 obtain ⟨g7,hg7⟩: ∃g,g=w1.heap.size:=⟨_,rfl⟩
 refine wp_wld9 (fun WW=>Below w.heap.size w WW∧QL 38 WW w1.heap.size (decide (D.1<0)) (.slice a1 (limbs D.1.natAbs).length c1) D.2∧QL 38 WW (w1.heap.size+1) (decide (E.1<0)) (.slice a2 (limbs E.1.natAbs).length c2) E.2∧Ns .u32 WW a1 c1 (limbs D.1.natAbs)∧Ns .u32 WW a2 c2 (limbs E.1.natAbs)) ⟨below_trans (below_trans (below_trans yr hb1) (below_alloc _ _)) (below_alloc _ _),(QL.made rfl).alloc _,QL.made (by simp),(n1.below (below_alloc _ _)).below (below_alloc _ _),(n2.below (below_alloc _ _)).below (below_alloc _ _)⟩ ?_
 rw [←hg7]
 clear hb1 yr n1 n2 hg7 HC1
 intro W2 ⟨yr,q7,q8,n1,n2⟩
 have VD1:VD W2 D (.agg #[.bool (decide (D.1<0)),.slice a1 (limbs D.1.natAbs).length c1,.int .i64 D.2]):=⟨a1,c1,rfl,n1⟩
 have VE1:VD W2 E (.agg #[.bool (decide (E.1<0)),.slice a2 (limbs E.1.natAbs).length c2,.int .i64 E.2]):=⟨a2,c2,rfl,n2⟩
 obtain ⟨⟨i0,i1,-⟩,i2,-⟩:=id q7
 have HRET:=hid (show ∀w',rX D mode=rX E mode→rC D mode=true→rC E mode=true→Below w.heap.size w w'→RetNear w mode Good (.returned (.tuple #[.int .u64 (rX D mode),.bool true,.int .i64 0])) w' from fun w' h1 h2 h3 h4=>⟨p,D,E,hgd1.out,h1,h2,h3,rfl,h4⟩)
 generalize rX D mode=XA at *
 generalize rX E mode=XB at *
 generalize rC D mode=cA at *
 generalize rC E mode=cB at *
 go_upto_region 5 with (go_at_call 68;(with_reducible refine (MD.out _ _ VD1).mono ?_);rintro en w3 ⟨rfl,hb3⟩)
 have q83:=q8.below hb3
 obtain ⟨⟨m0,m1,-⟩,m2,-⟩:=id q83
 go_upto_region 6 with (go_at_call 68;(with_reducible refine (ME.out _ _ (VE1.below hb3)).mono ?_);rintro en w4 ⟨rfl,hb4⟩)
 have yb4:=below_trans (below_trans yr hb3) hb4
 have wP:p<17179869184→IntKind.i64.wrap ((p:Int)*2)=((p*2:Nat):Int):=fun h=>by rw [IntWalk.i64_in _ (by omega)];omega
 clear i0 i1 i2 m0 m1 m2 q7 q8 q83 VD1 VE1 n1 n2 hb3 hb4 yr MD ME
 by_cases hEq:XA=XB
 ·have hb1:(XA==XB)=true:=beq_iff_eq.2 hEq
  cases cA
  ·have hpn:p<17179869184:=Nat.lt_of_not_le fun h=>absurd (hEn.out h).2.1 (by simp)
   have wP2:=wP hpn
   go_wp2_with fail
   go_roundw
   case rel=>exact ⟨p*2,rfl,by omega,by omega,yb4⟩
   case measure=>simp [intOf];omega
  ·cases cB
   ·have hpn:p<17179869184:=Nat.lt_of_not_le fun h=>absurd (hEn.out h).2.2 (by simp)
    have wP2:=wP hpn
    go_wp2_with fail
    go_roundw
    case rel=>exact ⟨p*2,rfl,by omega,by omega,yb4⟩
    case measure=>simp [intOf];omega
   ·have HX:=hid hEq
    clear hEq wP
    go_wp2_with fail
    refine bodyPost_ret (by simp [results,Tryz.results48,go_sem];try rfl) rfl ?_
    exact HRET.out _ HX.out (by trivial) (by trivial) yb4
 ·have hb1:(XA==XB)=false:=beq_eq_false_iff_ne.2 hEq
  have hpn:p<17179869184:=Nat.lt_of_not_le fun h=>hEq (hEn.out h).1
  have wP2:=wP hpn
  clear hEq
  go_wp2_with fail
  go_roundw
  case rel=>exact ⟨p*2,rfl,by omega,by omega,yb4⟩
  case measure=>simp [intOf];omega
end Go.Proofs.YtehhegbkahnhgaaGreatDoor
namespace Go.Ulp
open Go.RowKit
theorem rC_zero (e mode:Int):rC (nrm 0 e) mode=false:=by
 have:nrm 0 e=(0,0):=rfl
 rw [this]
 unfold rC numC numR
 rfl
theorem st_ne0 {x:Int} {p:Nat} {mode:Int} (h:rC (nrm x (-(p:Int))) mode=true):st x (2^p)≠0:=by
 intro h0
 have hs:=st_sign x (2^p) (Nat.two_pow_pos p)
 rw [h0] at hs
 have:x=0:=by
  have h1:cmpI x 0=0:=by rw [←hs];decide
  exact (cmpI_eq_zero _ _).1 h1
 rw [this,rC_zero] at h
 cases h
theorem NB_nrm (x:Int) (p k:Nat) (h:x.natAbs≤2^k) (hk:k≤34359740000) (hp:p≤34359738368):NB (nrm x (-(p:Int))):=by
 have h':x.natAbs<2^(k+1):=Nat.lt_of_le_of_lt h (Nat.pow_lt_pow_right (by omega) (by omega))
 obtain ⟨h1,h2⟩:=nrm_bd x (-(p:Int)) (k+1) h'
 exact ⟨len_le (Nat.le_of_lt h1) (by omega),by omega,nrm_isN _ _⟩
theorem goodL_nb (m:Nat) (e:Int) (p:Nat) (D E:Dy) (h:GoodL m e p D E):NB D∧NB E:=by
 obtain ⟨p1,p2,x,-,a,b,rfl,rfl⟩:=h
 exact ⟨NB_nrm _ p (p+60) a (by omega) p2,NB_nrm _ p (p+60) b (by omega) p2⟩
theorem goodL_end (m:Nat) (e mode:Int) (h0:0<m) (hm:m<2^1280) (he: -3000≤e∧e≤3000) (h1:dyQ m e≠1) (m0:0≤mode) (m1:mode≤4) (p:Nat) (D E:Dy) (h:GoodL m e p D E) (hp:17179869184≤p):rX D mode=rX E mode∧rC D mode=true∧rC E mode=true:=by
 obtain ⟨p1,p2,x,hx,-,-,rfl,rfl⟩:=h
 have k:100+(GG+4300)≤p:=by unfold GG;omega
 obtain ⟨q,q1,q2⟩:=ln_ends hx (Nat.two_pow_pos p) h0 hm he h1 (GG+4300) rfl (Nat.pow_le_pow_right (by omega) k)
 have r1:=prog_st x.1 p mode m0 m1
 have r2:=prog_st x.2 p mode m0 m1
 rw [q1] at r1
 rw [q2] at r2
 exact ⟨(r1.uniq r2).1,rnd_odd r1 (by omega),rnd_odd r2 (by omega)⟩
theorem goodL_r (m:Nat) (e mode:Int) (m0:0≤mode) (m1:mode≤4) (p:Nat) (D E:Dy) (h:GoodL m e p D E) (h1:rX D mode=rX E mode) (h2:rC D mode=true) (h3:rC E mode=true):LnR m e mode (rX D mode):=by
 obtain ⟨p1,p2,x,hx,-,-,rfl,rfl⟩:=h
 have r1:=prog_st x.1 p mode m0 m1
 have r2:=prog_st x.2 p mode m0 m1
 rw [←h1] at r2
 exact ⟨2^p,100,x,_,_,Nat.two_pow_pos p,hx,r1,r2,st_ne0 h2,st_ne0 h3⟩
def RetLn (w:World) (m:Nat) (e mode:Int) (en:Ending) (w':World):Prop:= ∃X,LnR m e mode X∧en=.returned (.tuple #[.int .u64 X,.bool true,.int .i64 0])∧Below w.heap.size w w'
end Go.Ulp
namespace Go.Proofs.YtehhegbkahnhgaaGreatDoor
open Go.RowKit Go.Ulp
set_option maxHeartbeats 4000000
set_option maxRecDepth 100000
theorem ent_lg9 (p:Int) (cp:Value) (w:World):Sem.run Tryz.prog (callFunc 63 #[.int .i64 p,cp]) w=.ok (.enter 63 #[.int .i64 p,cp]) w:=by
 simp [callFunc,go_sem,Tryz.func63,Tryz.f63]
theorem logB9_any (m:Nat) (e:Int) (ng:Bool) (p:Nat) (a:Option Addr) (c:Nat) (w:World) (h:Ns .u32 w a c (limbs m)) (t:Tab 0 w) (hm:0<m) (hmb:m<2^1280) (he: -3000≤e∧e≤3000) (hp0:20≤p) (hp:p≤34359738368):
 Calls Tryz.prog 64 #[.agg #[.bool ng,.slice a (limbs m).length c,.int .i64 e],.int .i64 (p:Int)] w (fun en w'=> ∃D E,GoodL m e p D E∧RetVD2 w D E en w'):=by
 have hl:=lg_ok m hm
 obtain ⟨z,hz⟩: ∃z,z=1280:=⟨_,rfl⟩
 have hbl:bl m≤1280:=(bl_le m 1280).2 hmb
 have hs:lgS m≤z:=by rw [hz];unfold lgS;split<;>omega
 have hmz:m<2^z:=by rw [hz];exact hmb
 have h2:2^lgS m≤2^z:=Nat.pow_le_pow_right (by omega) hs
 have h3: ∀y x,y=9000→x≤2^z*2→x≤2^y:=fun y x hy h=>Nat.le_trans h (by rw [←Nat.pow_succ];exact Nat.pow_le_pow_right (by omega) (by omega))
 have hh:2*lgN m≤m+2^lgS m:=by split at hl<;>omega
 have h5:lgN m≤2^z*2:=by split at hl<;>omega
 have h6:=Nat.two_pow_pos (lgS m)
 have h4:4≤2^z:=Nat.le_trans (show 4≤2^2 by decide) (Nat.pow_le_pow_right (by omega) (by omega))
 obtain ⟨kA,hA⟩:=atOK_ex (lgN m) (m+2^lgS m) p (by omega) hh (h3 9000 _ rfl h5) (h3 9000 _ rfl (by omega)) hp0 hp
 obtain ⟨kT,hT3⟩:=atOK_ex 1 3 p (by omega) (by omega) (h3 9000 _ rfl (by omega)) (h3 9000 _ rfl (by omega)) hp0 hp
 exact (logBounds_any m e p kA kT ng a c w h hm hmb he hA hT3 t).mono (fun en w' h=>⟨_,_,goodL_of m e p kA kT hm hmb he hA hT3,h⟩)
theorem lgC9_any (m:Nat) (e:Int) (ng:Bool) (p g:Nat) (a:Option Addr) (c:Nat) (w:World) (zD:QL 38 w g ng (.slice a (limbs m).length c) e) (h0:Ns .u32 w a c (limbs m)) (hm:0<m) (hmb:m<2^1280) (he: -3000≤e∧e≤3000) (hp0:20≤p) (hp:p≤34359738368) (hT:Tab 0 w):
 Calls Tryz.prog 63 #[.int .i64 (p:Int),.pointer (some ⟨g,0,none⟩)] w fun en w'=> ∃D E,GoodL m e p D E∧RetVD2 w D E en w':=by
 have EB2:=hid (fun w h t=>logB9_any m e ng p a c w h t hm hmb he hp0 hp)
 obtain ⟨W0,hW0⟩: ∃W:World,W=(w.alloc (.cells #[.bool false,.slice none 0 0,.int .i64 0] 38)).alloc (.cells #[.bool false,.slice none 0 0,.int .i64 0] 38):=⟨_,rfl⟩
 have yb0:Below w.heap.size w W0:=by rw [hW0];(repeat' first|(with_reducible first|assumption|apply bR|apply bA|apply bN|apply bD|apply bL|apply bS)|refine bT ?_ (by assumption)|go_size)
 have zA:=zD.below yb0
 have zR:QL 38 W0 w.heap.size false (.slice none 0 0) 0:=by rw [hW0];exact (QL.made rfl).alloc _
 have zS:QL 38 W0 (w.heap.size+1) false (.slice none 0 0) 0:=by rw [hW0];exact QL.made (by simp)
 have n0:=h0.below yb0
 have t0:=hT.below yb0
 clear h0 hT zD hm hmb he
 go_enter Tryz.func63,Tryz.ntmps63
 go_upto_region 1 with fail
 rw [←hW0]
 clear hW0
 obtain ⟨⟨i0,i1,-⟩,i2,-⟩:=id zA
 go_wp2_with (go_at_call 64;(with_reducible refine (EB2.out _ n0 t0).mono ?_);rintro en w3 ⟨D,E,hgd,v3,v4,rfl,⟨a3,c3,rfl,hN3⟩,⟨a4,c4,rfl,hN4⟩,HB⟩;have zR2:=zR.below HB;have zS2:=zS.below HB;have yb2:=below_trans yb0 HB;obtain ⟨⟨k0,k1,f0,f1,hs2⟩,k2,f2⟩:=id zR2;obtain ⟨⟨m0,m1,g0,g1,hs3⟩,m2,g2⟩:=id zS2)
 refine bodyPost_ret (by simp [results,Tryz.results63,go_sem,k0,k1,k2,m0,m1,m2];try rfl) rfl ?_
 have zS3:=zS2.far3 (b:=w.heap.size) (by omega) (.bool (decide (D.1<0))) (.slice a3 (limbs D.1.natAbs).length c3) (.int .i64 D.2)
 exact ⟨D,E,hgd,_,_,rfl,⟨a3,c3,rfl,(hN3.set3 zR2 (by intro x h;cases h) _ _ _).set3 zS3 (by intro x h;cases h) _ _ _⟩,⟨a4,c4,rfl,(hN4.set3 zR2 (by intro x h;cases h) _ _ _).set3 zS3 (by intro x h;cases h) _ _ _⟩,Go.Ulp.Below.put3 (Go.Ulp.Below.put3 yb2 (by omega) _ _ _) (by omega) _ _ _⟩
theorem logarithm_any (m:Nat) (e mode:Int) (ng:Bool) (a:Option Addr) (c:Nat) (w:World) (h0:Ns .u32 w a c (limbs m)) (hm:0<m) (hmb:m<2^1280) (he: -3000≤e∧e≤3000) (hd:dyQ m e≠1) (m0:0≤mode) (m1:mode≤4) (hT:Tab 0 w):
 Calls Tryz.prog 19 #[.agg #[.bool ng,.slice a (limbs m).length c,.int .i64 e],.int .i64 mode] w (RetLn w m e mode):=by
 have zA:QL 38 (w.alloc (.cells #[.bool ng,.slice a (limbs m).length c,.int .i64 e] 38)) w.heap.size ng (.slice a (limbs m).length c) e:=QL.made rfl
 have yb:=below_alloc w (.cells #[.bool ng,.slice a (limbs m).length c,.int .i64 e] 38)
 have NR:=hid (fun w' hz hN hT=>near_any mode 63 (.pointer (some ⟨w.heap.size,0,none⟩)) (GoodL m e) w' (fun p w=>ent_lg9 p _ w) (goodL_nb m e) (fun p D E h hp=>goodL_end m e mode hm hmb he hd m0 m1 p D E h hp) (fun p w'' h1 h2 hb=>lgC9_any m e ng p w.heap.size a c w'' (QL.below hz hb) (Ns.below hN hb) hm hmb he (by omega) h2 (Tab.below hT hb)))
 have HR:=hid (fun p D E h h1 h2 h3=>goodL_r m e mode m0 m1 p D E h h1 h2 h3)
 have H0:=hid (h0.below yb)
 have HT:=hid (hT.below yb)
 have hmf: ∀fn first cap w,(Instr.makeFunc fn first cap).run Tryz.prog w=.ok (.func fn first cap) w:=fun _ _ _ _=>rfl
 clear h0 hT hm hmb he hd
 go_enter Tryz.func19,Tryz.ntmps19
 go_upto_region 1 with fail
 refine wp_wld9 (fun WW=>Below w.heap.size w WW∧QL 38 WW w.heap.size ng (.slice a (limbs m).length c) e∧Ns .u32 WW a c (limbs m)∧Tab 0 WW) ⟨yb,zA,H0.out,HT.out⟩ ?_
 clear yb zA H0 HT
 intro W1 ⟨yb,zA,h0,hT⟩
 go_wp2_with (go_at_call 48;(with_reducible refine (NR.out _ zA h0 hT).mono ?_);rintro en w3 ⟨p,D,E,hg,g1,g2,g3,rfl,hb3⟩;have HX:=hid (HR.out p D E hg g1 g2 g3);clear g1 g2 g3 hg;generalize rX D mode=X at HX ⊢)
 refine bodyPost_ret (by simp [results,Tryz.results19,go_sem];try rfl) rfl ?_
 exact ⟨X,HX.out,rfl,below_trans yb hb3⟩
end Go.Proofs.YtehhegbkahnhgaaGreatDoor
namespace Go.Ulp
open Go.RowKit
def AS (L:List Nat) (i:Nat) (inf:Int) (cl nn:Bool) (ng ps:Nat) (S:Int):Prop:=
 inf=infTo L i∧cl=clashTo L i∧nn=anyTo isNan L i∧ng=cntTo mZer L i∧ps=cntTo pZer L i∧S=sumTo L i
theorem AS.inf {L:List Nat} {i:Nat} {inf:Int} {cl nn:Bool} {ng ps:Nat} {S:Int} (h:AS L i inf cl nn ng ps S) (hc:classOf (lb L i)=4):AS L (i+1) (lb L i) (cl||(decide (inf≠0)&&decide (inf≠lb L i))) nn ng ps S:=by
 obtain ⟨a,b,c,d,e,f⟩:=h
 subst a b c d e f
 unfold AS
 rw [show infTo L (i+1)=if isInf (lb L i) then lb L i else infTo L i from rfl,show clashTo L (i+1)=if isInf (lb L i) then clashTo L i||(decide (infTo L i≠0)&&decide (infTo L i≠lb L i)) else clashTo L i from rfl,
  show anyTo isNan L (i+1)=(anyTo isNan L i||isNan (lb L i)) from rfl,show cntTo mZer L (i+1)=cntTo mZer L i+(if mZer (lb L i) then 1 else 0) from rfl,show cntTo pZer L (i+1)=cntTo pZer L i+(if pZer (lb L i) then 1 else 0) from rfl,show sumTo L (i+1)=sumTo L i+uV (lb L i) from rfl]
 unfold mZer pZer isInf isNan isZer uV
 rw [hc]
 simp
theorem AS.val {L:List Nat} {i:Nat} {inf:Int} {cl nn:Bool} {ng ps:Nat} {S:Int} (h:AS L i inf cl nn ng ps S) (h5:classOf (lb L i)≠5) (h4:classOf (lb L i)≠4) (h1:classOf (lb L i)≠1):
 AS L (i+1) inf cl nn ng ps (S+uV (lb L i)):=by
 obtain ⟨a,b,c,d,e,f⟩:=h
 subst a b c d e f
 unfold AS
 rw [show infTo L (i+1)=if isInf (lb L i) then lb L i else infTo L i from rfl,show clashTo L (i+1)=if isInf (lb L i) then clashTo L i||(decide (infTo L i≠0)&&decide (infTo L i≠lb L i)) else clashTo L i from rfl,
  show anyTo isNan L (i+1)=(anyTo isNan L i||isNan (lb L i)) from rfl,show cntTo mZer L (i+1)=cntTo mZer L i+(if mZer (lb L i) then 1 else 0) from rfl,show cntTo pZer L (i+1)=cntTo pZer L i+(if pZer (lb L i) then 1 else 0) from rfl,show sumTo L (i+1)=sumTo L i+uV (lb L i) from rfl]
 unfold mZer pZer isInf isNan isZer
 have e5:(classOf (lb L i)==5)=false:=beq_eq_false_iff_ne.2 h5
 have e4:(classOf (lb L i)==4)=false:=beq_eq_false_iff_ne.2 h4
 have e1:(classOf (lb L i)==1)=false:=beq_eq_false_iff_ne.2 h1
 rw [e5,e4,e1]
 simp
section
variable {L:List Nat} {inf:Int} {cl nn:Bool} {ng ps:Nat} {S:Int} {mode:Int}
theorem AS.sNan (hL: ∀j,lb L j<18446744073709551616) (h:AS L L.length inf cl nn ng ps S):Go.Ulp.sNan L=(nn||cl):=by
 obtain ⟨a,b,c,d,e,f⟩:=h
 unfold Go.Ulp.sNan
 rw [c,b]
 rcases inf_state L hL L.length with ⟨x,y,z,t⟩|⟨x,y,t⟩|⟨x,y,t⟩
 ·rw [t,y,z];rfl
 ·rw [t,y];simp
 ·rw [t,y];simp
theorem AS.sInf (hL: ∀j,lb L j<18446744073709551616) (h:AS L L.length inf cl nn ng ps S):Go.Ulp.sInf L=decide (inf≠0):=by
 obtain ⟨a,b,c,d,e,f⟩:=h
 unfold Go.Ulp.sInf
 rw [a]
 rcases inf_state L hL L.length with ⟨x,y,z,t⟩|⟨x,y,t⟩|⟨x,y,t⟩
 ·rw [x,y,z];rfl
 ·rw [x,y];simp
 ·rw [x,y];simp
end
end Go.Ulp
namespace Go.Proofs.YtehhegbkahnhgaaGreatDoor
open Go.RowKit Go.Ulp
set_option maxHeartbeats 2000000
set_option maxRecDepth 100000
end Go.Proofs.YtehhegbkahnhgaaGreatDoor
namespace Go.Ulp
open Go.RowKit
def QV (t e:TypeId) (w:World) (g:Nat) (D:Dy) (A T:Nat):Prop:=
 ∃(x:Int) (n:Nat) (ao:Option Addr) (cap:Nat),QL t w g (zneg x) (.slice ao (zl x).length cap) (n:Int)∧Nz e w ao cap (zl x)∧nrm x (-(n:Int))=D∧x.natAbs<2^A∧n≤T
theorem QV.below {t e:TypeId} {w w':World} {g:Nat} {D:Dy} {A T:Nat} (h:QV t e w g D A T) (hb:Below w.heap.size w w'):QV t e w' g D A T:=by
 obtain ⟨x,n,ao,cap,h1,h2,h3⟩:=h
 exact ⟨x,n,ao,cap,h1.below hb,h2.below hb,h3⟩
theorem QV.weak {t e:TypeId} {w:World} {g:Nat} {D:Dy} {A T A' T':Nat} (h:QV t e w g D A T) (hA:A≤A') (hT:T≤T'):QV t e w g D A' T':=by
 obtain ⟨x,n,ao,cap,h1,h2,h3,h4,h5⟩:=h
 exact ⟨x,n,ao,cap,h1,h2,h3,abs_weak h4 hA,by omega⟩
theorem QV.zero {t e:TypeId} {w:World} (A T:Nat):QV t e (w.alloc (.cells #[.bool false,.slice none 0 0,.int .i64 0] t)) w.heap.size (0,0) A T:=
 ⟨0,0,none,0,QL.made rfl,Nz.nil' none 0 (by unfold maxLen;omega),nrm_zero _,Nat.two_pow_pos A,Nat.zero_le _⟩
def BS (L:List Nat) (i:Nat) (pl mi nn:Bool) (zs sg:Nat) (S:Int):Prop:=
 pl=anyTo pInf L i∧mi=anyTo mInf L i∧nn=anyTo isNan L i∧zs=cntTo isZer L i∧sg=cntTo mZer L i∧S=sumTo L i
section
variable {L:List Nat} {pl mi nn:Bool} {zs sg:Nat} {S:Int} {mode:Int}
theorem BS.none (h:BS L L.length pl mi nn zs sg S) (hb:(nn||(pl&&mi))=false) (hi:(pl||mi)=false):sNan L=false∧sInf L=false:=by
 obtain ⟨a,b,c,d,e,f⟩:=h
 exact ⟨by unfold sNan;rw [←a,←b,←c];exact hb,by unfold sInf;rw [←a,←b];exact hi⟩
end
end Go.Ulp
namespace Go.Proofs.YtehhegbkahnhgaaGreatDoor
open Go.RowKit Go.Ulp
set_option maxHeartbeats 2000000
set_option maxRecDepth 100000
end Go.Proofs.YtehhegbkahnhgaaGreatDoor
namespace Go.Ulp
open Go.RowKit
def mdX (mode x:Int):Int:=if knownB mode=true then x else 0
def mdC (mode:Int) (c:Bool):Bool:=if knownB mode=true then c else false
def mdE (mode:Int):Int:=if knownB mode=true then 0 else 1
theorem md_yes {mode:Int} (h:knownB mode=true) (x:Int) (c:Bool):mdX mode x=x∧mdC mode c=c∧mdE mode=0:=by
 unfold mdX mdC mdE;rw [if_pos h,if_pos h,if_pos h];exact ⟨rfl,rfl,rfl⟩
theorem md_no {mode:Int} (h:knownB mode=false) (x:Int) (c:Bool):mdX mode x=0∧mdC mode c=false∧mdE mode=1:=by
 unfold mdX mdC mdE;rw [h];exact ⟨rfl,rfl,rfl⟩
def CV (w:World) (g:Nat) (v:Value):Prop:=w.cell? ⟨g,0,none⟩=some v∧w.frozen? ⟨g,0,none⟩=false
theorem CV.below {w w':World} {g:Nat} {v:Value} (h:CV w g v) (hb:Below w.heap.size w w'):CV w' g v:=
 ⟨(hb.cell (World.block_lt_of_cell? _ _ h.1)).trans h.1,(hb.frozen (World.block_lt_of_cell? _ _ h.1)).trans h.2⟩
theorem CV.made {w:World} {v:Value} {t:TypeId}:CV (w.alloc (.cells #[v] t)) w.heap.size v:=by
 constructor
 ·rw [World.cell?_alloc_at (hn:=rfl)];rfl
 ·simp
end Go.Ulp
namespace Go.Proofs.YtehhegbkahnhgaaGreatDoor
open Go.RowKit Go.Ulp
set_option maxHeartbeats 2000000
set_option maxRecDepth 100000
theorem told_md (x:Int) (ch:Bool) (mode:Int) (fn:Nat) (caps:Array Value) (w:World) (hfn: ∀w,Sem.run Tryz.prog (callFunc fn caps) w=.ok (.enter fn caps) w) (hC:knownB mode=true→ ∀w',Below w.heap.size w w'→Calls Tryz.prog fn caps w' (RetX w' x ch)):
 Calls Tryz.prog 7 #[.int .u64 (mdX mode x),.bool (mdC mode ch),.int .i64 (mdE mode),.int .i64 mode,.func (.func fn) #[] caps] w fun e w'=>e=.returned (.bool true)∧Below w.heap.size w w':=by
 have BT:=hid (show ∀w,Calls Tryz.prog 26 #[.int .i64 mode,.int .i64 0,.int .i64 4] w fun e w'=>e=.returned (.bool (knownB mode))∧w=w' from fun w=>between_any mode 0 4 w)
 cases hk:knownB mode
 ·obtain ⟨e1,e2,e3⟩:=md_no hk x ch
  rw [e1,e2,e3]
  rw [hk] at BT
  clear e1 e2 e3 hC hk
  go_enter Tryz.func7,Tryz.ntmps7
  go_wp2_with (go_at_call 26;(with_reducible refine (BT.out _).mono ?_);rintro en w1 ⟨rfl,rfl⟩)
  go_ret
  exact ⟨rfl,Below.refl _ _⟩
 ·obtain ⟨e1,e2,e3⟩:=md_yes hk x ch
  rw [e1,e2,e3]
  have HC:=hid (hC hk w (Below.refl _ _))
  rw [hk] at BT
  clear e1 e2 e3 hC hk
  go_enter Tryz.func7,Tryz.ntmps7
  go_wp2_with (first
   |(go_at_call 26;(with_reducible refine (BT.out _).mono ?_);rintro en w1 ⟨rfl,rfl⟩)
   |((with_reducible refine HC.out.mono ?_);rintro en w2 ⟨rfl,hb2⟩))
  go_ret
  exact ⟨ret_bool (by simp),hb2⟩
end Go.Proofs.YtehhegbkahnhgaaGreatDoor
namespace Go.Ulp
open Go.RowKit
theorem fv_sgn9 (x:Int) (h0:0≤x) (h1:x<18446744073709551616):sgn (fv x).1=cmpI (rankOf x) 0:=by
 have h:=cmp_fv x 0 h0 h1 (by omega) (by omega)
 rw [show fv 0=(0,0) by decide,cmpD_zero,show rankOf 0=0 by decide] at h
 exact h
theorem fv_pos9 (x:Int) (h0:0<x) (h1:x<9223372036854775808):0<(fv x).1:=by
 have h:=fv_sgn9 x (by omega) (by omega)
 have r:rankOf x=x:=by unfold rankOf;rw [if_neg (by omega)];omega
 rw [r] at h
 unfold sgn at h
 exact (cmpI_gt _ _).1 (by rw [h];exact (cmpI_gt _ _).2 h0)
theorem fv_one9:fv 4607182418800017408=nrm 1 0:=by
 have h:=nrm_scale 1 (-52) 52
 rw [show (1:Int)*pw 52=4503599627370496 by decide] at h
 exact h
theorem fv_is1 (x:Int) (h0:0≤x) (h1:x<9223372036854775808) (h:cmpD (fv x) (nrm 1 0)=0):x=4607182418800017408:=by
 rw [←fv_one9,cmp_fv x _ h0 (by omega) (by omega) (by omega)] at h
 have e:=(cmpI_eq_zero _ _).1 h
 unfold rankOf at e
 rw [if_neg (by omega),if_neg (by omega)] at e
 omega
theorem odd_IsN {D:Dy} (h:IsN D) (h0:0<D.1):D.1.natAbs%2=1:=by
 rcases h with h|h<;>omega
theorem dq_ne1 {D:Dy} (hI:IsN D) (h0:0<D.1) (h:cmpD D (nrm 1 0)≠0):dyQ D.1.natAbs D.2≠1:=by
 intro h2
 obtain ⟨a,b⟩:=dyQ_one _ _ (odd_IsN hI h0) h2
 apply h
 have e:D=(1,0):=Prod.ext (by show D.1=1;omega) b
 rw [e,show nrm 1 0=((1:Int),(0:Int)) by decide]
 exact cmpD_self _
def LgSaid (x mode X:Int) (ch:Bool):Prop:=
 if classOf x=1 then X=18442240474082181120∧ch=false else if classOf x=5∨negB x=true then X=9221120237041090560∧ch=false else if x=9218868437227405312 then X=x∧ch=false else if x=4607182418800017408 then X=0∧ch=false else ch=true∧LnR (fv x).1.natAbs (fv x).2 mode X
theorem LgSaid.uniq {x mode X Y:Int} {c d:Bool} (h:LgSaid x mode X c) (k:LgSaid x mode Y d):X=Y∧c=d:=by
 unfold LgSaid at h k
 split at h
 ·rename_i h1;rw [if_pos h1] at k;exact ⟨h.1.trans k.1.symm,h.2.trans k.2.symm⟩
 ·rename_i h1;rw [if_neg h1] at k
  split at h
  ·rename_i h1;rw [if_pos h1] at k;exact ⟨h.1.trans k.1.symm,h.2.trans k.2.symm⟩
  ·rename_i h1;rw [if_neg h1] at k
   split at h
   ·rename_i h1;rw [if_pos h1] at k;exact ⟨h.1.trans k.1.symm,h.2.trans k.2.symm⟩
   ·rename_i h1;rw [if_neg h1] at k
    split at h
    ·rename_i h1;rw [if_pos h1] at k;exact ⟨h.1.trans k.1.symm,h.2.trans k.2.symm⟩
    ·rename_i h1;rw [if_neg h1] at k;exact ⟨h.2.uniq k.2,h.1.trans k.1.symm⟩
def RetE9 (w:World) (mode:Int) (Said:Int→Bool→Prop) (en:Ending) (w':World):Prop:= ∃X ch,(knownB mode=true→Said X ch)∧RetX3 w (mdX mode X) (mdC mode ch) (mdE mode) en w'
theorem RetE9.no {w w':World} {mode:Int} {Said:Int→Bool→Prop} {en:Ending} (hk:knownB mode=false) (h:RetX3 w 0 false 1 en w'):RetE9 w mode Said en w':=by
 obtain ⟨e1,e2,e3⟩:=md_no hk 0 false
 refine ⟨0,false,?_,?_⟩
 ·intro h2;rw [hk] at h2;cases h2
 ·rw [e1,e2,e3];exact h
theorem RetE9.yes {w w':World} {mode:Int} {Said:Int→Bool→Prop} {en:Ending} (hk:knownB mode=true) {X:Int} {ch:Bool} (hs:Said X ch) (h:RetX3 w X ch 0 en w'):RetE9 w mode Said en w':=by
 obtain ⟨e1,e2,e3⟩:=md_yes hk X ch
 exact ⟨X,ch,fun _=>hs,by rw [e1,e2,e3];exact h⟩
theorem lt_1280 {m:Nat} (h:m<2^53):m<2^1280:=by
 obtain ⟨z,hz⟩: ∃z,z=1280:=⟨_,rfl⟩
 rw [←hz]
 exact Nat.lt_of_lt_of_le h (Nat.pow_le_pow_right (by omega) (by omega))
theorem known_bd {mode:Int} (h:knownB mode=true):0≤mode∧mode≤4:=by unfold knownB at h;exact of_decide_eq_true h
end Go.Ulp
namespace Go.Proofs.YtehhegbkahnhgaaGreatDoor
open Go.RowKit Go.Ulp
set_option maxHeartbeats 4000000
set_option maxRecDepth 100000
theorem expoLog_any (x:Int) (h0:0≤x) (h1:x<18446744073709551616) (mode:Int) (w:World) (hT:Tab 0 w):
 Calls Tryz.prog 5 #[.int .u64 x,.int .i64 mode] w (RetE9 w mode (LgSaid x mode)):=by
 have KN:=hid (fun w=>known_any mode w)
 have CX:=hid (fun w=>class_any x h0 h1 w)
 cases hk:knownB mode
 ·rw [hk] at KN
  have HN:=hid (show ∀(en:Ending) (w':World),RetX3 w 0 false 1 en w'→RetE9 w mode (LgSaid x mode) en w' from fun en w' h=>RetE9.no hk h)
  clear hk hT
  go_enter Tryz.func5,Tryz.ntmps5
  go_wp2_with (go_at_call 17;(with_reducible refine (KN.out _).mono ?_);rintro en w1 ⟨rfl,rfl⟩)
  refine bodyPost_ret (by simp [results,Tryz.results5,go_sem];try rfl) rfl ?_
  exact HN.out _ _ ⟨rfl,Below.refl _ _⟩
 ·rw [hk] at KN
  have HY:=hid (fun (en:Ending) (w':World) (X:Int) (ch:Bool) (hs:LgSaid x mode X ch) (h:RetX3 w X ch 0 en w')=>RetE9.yes hk hs h)
  have hb:(x/9223372036854775808==1)=negB x:=by
   unfold negB
   rw [Bool.eq_iff_iff,beq_iff_eq,decide_eq_true_eq]
   omega
  have VX:=hid (fun w t=>value_any x h0 h1 w t)
  have HT:=hid hT
  by_cases c1:classOf x=1
  ·have HS:=hid (show ∀X ch,LgSaid x mode X ch=(X=18442240474082181120∧ch=false) from fun X ch=>by unfold LgSaid;rw [if_pos c1])
   rw [c1] at CX
   clear c1 hk hT hb VX
   go_enter Tryz.func5,Tryz.ntmps5
   go_wp2_with (first
    |(go_at_call 17;(with_reducible refine (KN.out _).mono ?_);rintro en w1 ⟨rfl,rfl⟩)
    |(go_at_call 18;(with_reducible refine (CX.out _).mono ?_);rintro en w1 ⟨rfl,rfl⟩))
   refine bodyPost_ret (by simp [results,Tryz.results5,go_sem];try rfl) rfl ?_
   exact HY.out _ _ _ _ (by rw [HS.out];first|exact ⟨rfl,rfl⟩|exact ⟨by first|rfl|assumption,rfl⟩) ⟨rfl,Below.refl _ _⟩
  have z1:(classOf x==1)=false:=beq_eq_false_iff_ne.2 c1
  by_cases c5:classOf x=5
  ·have HS:=hid (show ∀X ch,LgSaid x mode X ch=(X=9221120237041090560∧ch=false) from fun X ch=>by unfold LgSaid;rw [if_neg c1,if_pos (.inl c5)])
   rw [c5] at CX
   clear c1 c5 hk hT hb VX z1
   go_enter Tryz.func5,Tryz.ntmps5
   go_wp2_with (first
    |(go_at_call 17;(with_reducible refine (KN.out _).mono ?_);rintro en w1 ⟨rfl,rfl⟩)
    |(go_at_call 18;(with_reducible refine (CX.out _).mono ?_);rintro en w1 ⟨rfl,rfl⟩))
   refine bodyPost_ret (by simp [results,Tryz.results5,go_sem];try rfl) rfl ?_
   exact HY.out _ _ _ _ (by rw [HS.out];first|exact ⟨rfl,rfl⟩|exact ⟨by first|rfl|assumption,rfl⟩) ⟨rfl,Below.refl _ _⟩
  have z5:(classOf x==5)=false:=beq_eq_false_iff_ne.2 c5
  cases hn:negB x
  ·rw [hn] at hb
   have hx2:x<9223372036854775808:=by
    unfold negB at hn
    have:=of_decide_eq_false hn
    omega
   by_cases ci:x=9218868437227405312
   ·have HS:=hid (show ∀X ch,LgSaid x mode X ch=(X=x∧ch=false) from fun X ch=>by unfold LgSaid;rw [if_neg c1,if_neg (by rw [hn];simp [c5]),if_pos ci])
    have zi:(x==9218868437227405312)=true:=beq_iff_eq.2 ci
    clear c1 c5 hk hT VX hn ci
    generalize classOf x=k at *
    go_enter Tryz.func5,Tryz.ntmps5
    go_wp2_with (first
     |(go_at_call 17;(with_reducible refine (KN.out _).mono ?_);rintro en w1 ⟨rfl,rfl⟩)
     |(go_at_call 18;(with_reducible refine (CX.out _).mono ?_);rintro en w1 ⟨rfl,rfl⟩))
    refine bodyPost_ret (by simp [results,Tryz.results5,go_sem];try rfl) rfl ?_
    exact HY.out _ _ _ _ (by rw [HS.out];first|exact ⟨rfl,rfl⟩|exact ⟨by first|rfl|assumption,rfl⟩) ⟨rfl,Below.refl _ _⟩
   have zi:(x==9218868437227405312)=false:=beq_eq_false_iff_ne.2 ci
   by_cases co:x=4607182418800017408
   ·have HS:=hid (show ∀X ch,LgSaid x mode X ch=(X=0∧ch=false) from fun X ch=>by unfold LgSaid;rw [if_neg c1,if_neg (by rw [hn];simp [c5]),if_neg ci,if_pos co])
    have zo:(x==4607182418800017408)=true:=beq_iff_eq.2 co
    clear c1 c5 hk hT VX hn ci co
    generalize classOf x=k at *
    go_enter Tryz.func5,Tryz.ntmps5
    go_wp2_with (first
     |(go_at_call 17;(with_reducible refine (KN.out _).mono ?_);rintro en w1 ⟨rfl,rfl⟩)
     |(go_at_call 18;(with_reducible refine (CX.out _).mono ?_);rintro en w1 ⟨rfl,rfl⟩))
    refine bodyPost_ret (by simp [results,Tryz.results5,go_sem];try rfl) rfl ?_
    exact HY.out _ _ _ _ (by rw [HS.out];first|exact ⟨rfl,rfl⟩|exact ⟨by first|rfl|assumption,rfl⟩) ⟨rfl,Below.refl _ _⟩
   have zo:(x==4607182418800017408)=false:=beq_eq_false_iff_ne.2 co
   have HS:=hid (show ∀X ch,LgSaid x mode X ch=(ch=true∧LnR (fv x).1.natAbs (fv x).2 mode X) from fun X ch=>by unfold LgSaid;rw [if_neg c1,if_neg (by rw [hn];simp [c5]),if_neg ci,if_neg co])
   have hx0:0<x:=by
    rcases Int.lt_or_eq_of_le h0 with h|h
    ·exact h
    ·exfalso;apply c1;rw [←h];decide
   have fp:=fv_pos9 x hx0 hx2
   obtain ⟨-,b1,b2,b3⟩:=fv_bd x h0 h1
   have hmb:(fv x).1.natAbs<2^1280:=lt_1280 b1
   have hd:=dq_ne1 (nrm_isN _ _) fp (fun h=>co (fv_is1 x h0 hx2 h))
   have LG:=hid (show ∀v w,VD w (fv x) v→Tab 0 w→Calls Tryz.prog 19 #[v,.int .i64 mode] w (RetLn w (fv x).1.natAbs (fv x).2 mode) from fun v w hv t=>by
    obtain ⟨a,c,rfl,h2⟩:=hv
    exact logarithm_any _ _ mode _ a c w h2 (by omega) hmb ⟨by omega,by omega⟩ hd (known_bd hk).1 (known_bd hk).2 t)
   clear hd hmb b1 b2 b3 fp c1 c5 hk hT hn ci co
   generalize classOf x=k at *
   generalize fv x=D at *
   go_enter Tryz.func5,Tryz.ntmps5
   go_wp2_with (first
    |(go_at_call 17;(with_reducible refine (KN.out _).mono ?_);rintro en w1 ⟨rfl,rfl⟩)
    |(go_at_call 18;(with_reducible refine (CX.out _).mono ?_);rintro en w1 ⟨rfl,rfl⟩)
    |(go_at_call 20;(with_reducible refine (VX.out _ HT.out).mono ?_);rintro en w2 ⟨v2,rfl,hv2,hb2⟩)
    |(go_at_call 19;(with_reducible refine (LG.out _ _ hv2 (HT.out.below hb2)).mono ?_);rintro en w3 ⟨X,hX,rfl,hb3⟩;have HX:=hid hX;clear hX))
   refine bodyPost_ret (by simp [results,Tryz.results5,go_sem];try rfl) rfl ?_
   exact HY.out _ _ X true (by rw [HS.out];exact ⟨rfl,HX.out⟩) ⟨rfl,below_trans hb2 hb3⟩
  ·have HS:=hid (show ∀X ch,LgSaid x mode X ch=(X=9221120237041090560∧ch=false) from fun X ch=>by unfold LgSaid;rw [if_neg c1,if_pos (.inr hn)])
   rw [hn] at hb
   clear c1 c5 hk hT VX hn
   generalize classOf x=k at *
   go_enter Tryz.func5,Tryz.ntmps5
   go_wp2_with (first
    |(go_at_call 17;(with_reducible refine (KN.out _).mono ?_);rintro en w1 ⟨rfl,rfl⟩)
    |(go_at_call 18;(with_reducible refine (CX.out _).mono ?_);rintro en w1 ⟨rfl,rfl⟩))
   refine bodyPost_ret (by simp [results,Tryz.results5,go_sem];try rfl) rfl ?_
   exact HY.out _ _ _ _ (by rw [HS.out];first|exact ⟨rfl,rfl⟩|exact ⟨by first|rfl|assumption,rfl⟩) ⟨rfl,Below.refl _ _⟩
end Go.Proofs.YtehhegbkahnhgaaGreatDoor
namespace Go.Ulp
theorem ep_le_pow {c:Rat} (h0:0≤c): ∀n,ep c n≤c^n
 |0=>by rw [Rat.pow_zero];exact Rat.le_refl
 |n+1=>by
  have ih:=ep_le_pow h0 n
  have e0:=ep_nonneg c h0 n
  have hs:=ep_succ c n
  have e1:=ep_nonneg c h0 (n+1)
  rw [Rat.pow_succ]
  have k:ep c n*c≤c^n*c:=Rat.mul_le_mul_of_nonneg_right ih h0
  have g:(1:Rat)≤((n+1:Nat):Rat):=natle (show 1≤n+1 by omega)
  have g2:=Rat.mul_le_mul_of_nonneg_right g e1
  grind
theorem EE_geo {c:Rat} (h0:0≤c) (h1:c≤1): ∀T,(1-c)*EE c T≤1-c^T
 |0=>by
  rw [Rat.pow_zero]
  show (1-c)*0≤_
  grind
 |T+1=>by
  have ih:=EE_geo h0 h1 T
  have e:EE c (T+1)=EE c T+ep c T:=rfl
  have p:=ep_le_pow h0 T
  have p2:=Rat.mul_le_mul_of_nonneg_left p (show (0:Rat)≤1-c by grind)
  rw [e,Rat.pow_succ]
  grind
theorem pow_nonneg' {c:Rat} (h0:0≤c): ∀n:Nat,0≤c^n
 |0=>by rw [Rat.pow_zero];grind
 |n+1=>by rw [Rat.pow_succ];exact Rat.mul_nonneg (pow_nonneg' h0 n) h0
theorem log_le {u:Nat→Rat} {D:Rat} (h:LogTo u D) (hD:0<D) (ε:Rat) (hε:0<ε): ∃N0,∀N,N0≤N→u N≤D-1+ε:=by
 obtain ⟨a,b,A,B,ha,hb,e,hu⟩:=h
 have hB:=hb.one_le
 have hA:=ha.one_le
 obtain ⟨a0,a1,-⟩:=ha
 obtain ⟨b0,b1,b2⟩:=hb
 obtain ⟨δ,hδ⟩: ∃δ:Rat,δ=ε/(2*(D+ε)):=⟨_,rfl⟩
 have hδ1:δ*(2*(D+ε))=ε:=by rw [hδ];grind
 have hs:(0:Rat)<2*(D+ε):=by grind
 have hδ0:0<δ:=by
  rw [hδ,Rat.div_def]
  exact Rat.mul_pos hε (Rat.inv_pos.2 hs)
 have hδ2:2*δ≤1:=by
  apply Rat.le_of_mul_le_mul_left _ (show (0:Rat)<D+ε by grind)
  grind
 have hδ3:2*(D*δ)≤ε:=by
  have:=Rat.mul_pos hδ0 hε
  grind
 obtain ⟨N0,hN⟩:=b2 δ hδ0
 refine ⟨N0,fun N hNN=>?_⟩
 obtain ⟨T0,hT⟩:=hN N hNN
 rw [hu N]
 have key:0≤1+(a N-b N)→(1+(a N-b N))*(B-δ)≤A→a N-b N≤D-1+ε:=by
  intro h0 h1
  generalize a N-b N=d at *
  have h2:(1+d)*B≤2*(D*B):=by
   have:(1+d)*(2*(B-δ))≤2*A:=by grind
   have k2:=Rat.mul_le_mul_of_nonneg_left (show B≤2*(B-δ) by grind) h0
   rw [e] at this
   grind
  have h3:1+d≤2*D:=by
   apply Rat.le_of_mul_le_mul_left _ (show (0:Rat)<B by grind)
   grind
  have h4:(1+d)*δ≤2*D*δ:=Rat.mul_le_mul_of_nonneg_right h3 (by grind)
  have h5:ε≤ε*B:=by
   have:=Rat.mul_le_mul_of_nonneg_left hB (show (0:Rat)≤ε by grind)
   grind
  have h6:B*(1+d)≤B*(D+ε):=by rw [e] at h1;grind
  have h7:=Rat.le_of_mul_le_mul_left h6 (show (0:Rat)<B by grind)
  grind
 by_cases c1:a N-b N≤ -1
 ·grind
 have t2:=hT (T0+2) (by omega)
 by_cases c2:0≤a N-b N
 ·apply key (by grind)
  have g:=EE_add_ge (b N) (a N-b N) (b0 N) c2 (T0+2)
  have e9:b N+(a N-b N)=a N:=by grind
  rw [e9] at g
  have g2:=a1 N (T0+2+(T0+2))
  have g3:=EE_le (a N-b N) c2 (show 2≤T0+2 by omega)
  rw [EE_two] at g3
  generalize EE (a N-b N) (T0+2)=Y at *
  generalize EE (b N) (T0+2)=X at *
  generalize EE (a N) (T0+2+(T0+2))=Z at *
  generalize a N-b N=d at *
  have k1:=Rat.mul_le_mul_of_nonneg_left t2 (show (0:Rat)≤1+d by grind)
  have k2:=Rat.mul_le_mul_of_nonneg_left g3 (show (0:Rat)≤X by grind)
  grind
 ·apply key (by grind)
  have g:=EE_add_le (a N) (b N-a N) (a0 N) (by grind) (T0+2)
  have e9:a N+(b N-a N)=b N:=by grind
  rw [e9] at g
  have g2:=a1 N (T0+2)
  have g3:=EE_geo (c:=b N-a N) (by grind) (by grind) (T0+2)
  have g4:=pow_nonneg' (c:=b N-a N) (by grind) (T0+2)
  have g5:=EE_nonneg (b N-a N) (by grind) (T0+2)
  have g6:=EE_nonneg (a N) (a0 N) (T0+2)
  generalize (b N-a N)^(T0+2)=W at *
  generalize EE (b N-a N) (T0+2)=Y at *
  generalize EE (b N) (T0+2)=X at *
  generalize EE (a N) (T0+2)=Z at *
  have e10:1+(a N-b N)=1-(b N-a N):=by grind
  rw [e10]
  generalize b N-a N=c at *
  have hc:(0:Rat)≤1-c:=by grind
  have k1:=Rat.mul_le_mul_of_nonneg_left t2 hc
  have k2:=Rat.mul_le_mul_of_nonneg_left g hc
  have k3:=Rat.mul_le_mul_of_nonneg_right g2 g5
  have k4:=Rat.mul_le_mul_of_nonneg_left k3 hc
  have k5:=Rat.mul_le_mul_of_nonneg_right g3 (show (0:Rat)≤A by grind)
  have k6:=Rat.mul_nonneg g4 (show (0:Rat)≤A by grind)
  refine Rat.le_trans k1 (Rat.le_trans k2 (Rat.le_trans k4 ?_))
  have e11:(1-c)*(A*Y)=(1-c)*Y*A:=by grind
  have e12:(1-W)*A=A-W*A:=by grind
  rw [e11]
  rw [e12] at k5
  exact Rat.le_trans k5 (by grind)
open Go.RowKit
abbrev decD:=Lib.decDigits
theorem decD_small {n:Nat} (h:n<10):decD n= [UInt8.ofNat (48+n)]:=by unfold decD;rw [Lib.decDigits,dif_pos h]
theorem decD_big {n:Nat} (h: ¬n<10):decD n=decD (n/10)++ [UInt8.ofNat (48+n%10)]:=by unfold decD;conv=>lhs;rw [Lib.decDigits,dif_neg h]
theorem decD_step (q d:Nat) (hq:0<q) (hd:d<10):decD (q*10+d)=decD q++ [UInt8.ofNat (48+d)]:=by
 rw [decD_big (by omega),show (q*10+d)/10=q by omega,show (q*10+d)%10=d by omega]
def padz (k:Nat) (L:List UInt8):List UInt8:=List.replicate (k-L.length) 48++L
theorem padz_len (k:Nat) (L:List UInt8):(padz k L).length=max k L.length:=by unfold padz;rw [List.length_append,List.length_replicate];omega
theorem padz_cons (k:Nat) (L:List UInt8) (h:L.length<k):padz k (48::L)=padz k L:=by
 unfold padz
 obtain ⟨j,hj⟩: ∃j,k-L.length=j+1:=⟨k-L.length-1,by omega⟩
 rw [List.length_cons,show k-(L.length+1)=j by omega,hj,List.replicate_succ']
 simp
theorem padz_snoc (k:Nat) (L:List UInt8) (c:UInt8):padz (k+1) (L++ [c])=padz k L++ [c]:=by
 unfold padz
 rw [List.length_append,List.length_singleton,show k+1-(L.length+1)=k-L.length by omega,List.append_assoc]
theorem decD_pos (n:Nat):0<(decD n).length:=by
 by_cases h:n<10
 ·rw [decD_small h];simp
 ·rw [decD_big h];simp
theorem decD_ne (n:Nat):decD n≠ []:=fun h=>by have:=decD_pos n;rw [h] at this;simp at this
theorem decD_len: ∀(k n:Nat),n<10^(k+1)→(decD n).length≤k+1
 |0,n,h=>by rw [decD_small (by simpa using h)];simp
 |k+1,n,h=>by
  by_cases hn:n<10
  ·rw [decD_small hn];simp
  ·rw [decD_big hn,List.length_append,List.length_singleton]
   have:=decD_len k (n/10) (by rw [Nat.pow_succ] at h;omega)
   omega
theorem padz_dec_zero (k:Nat):padz (k+1) (decD 0)=List.replicate (k+1) 48:=by
 rw [decD_small (by omega)]
 unfold padz
 show List.replicate k 48++ [(48:UInt8)]=_
 rw [List.replicate_succ']
theorem dec_split: ∀(k q r:Nat),0<q→r<10^(k+1)→decD (q*10^(k+1)+r)=decD q++padz (k+1) (decD r)
 |0,q,r,hq,hr=>by
  have hr':r<10:=by simpa using hr
  rw [Nat.pow_succ,Nat.pow_zero,Nat.one_mul,decD_step q r hq hr',decD_small hr']
  rfl
 |k+1,q,r,hq,hr=>by
  have hr2:r/10<10^(k+1):=by rw [Nat.pow_succ] at hr;omega
  have ih:=dec_split k q (r/10) hq hr2
  have e:q*10^(k+1+1)+r=(q*10^(k+1)+r/10)*10+r%10:=by
   rw [Nat.pow_succ,←Nat.mul_assoc];omega
  have hp:0<q*10^(k+1):=Nat.mul_pos hq (Nat.pow_pos (by omega))
  rw [e,decD_step _ _ (by omega) (Nat.mod_lt _ (by omega)),ih,List.append_assoc]
  congr 1
  rw [←padz_snoc]
  by_cases hs:r<10
  ·rw [show r/10=0 by omega,show r%10=r by omega,decD_small hs,decD_small (by omega:0<10)]
   exact padz_cons (k+1+1) [UInt8.ofNat (48+r)] (by simp)
  ·rw [←decD_big hs]
theorem dec_four (a b k:Nat) (h:0<a) (hb:b<10000^k) (hk:0<k):decD (a*10000^k+b)=decD a++padz (4*k) (decD b):=by
 have e:10000^k=10^(4*k):=by rw [show (10000:Nat)=10^4 by decide,←Nat.pow_mul]
 obtain ⟨j,hj⟩: ∃j,4*k=j+1:=⟨4*k-1,by omega⟩
 rw [e,hj] at hb ⊢
 exact dec_split j a b h hb
theorem pad_four (a b k:Nat) (ha:a<10000) (hb:b<10000^k):padz (4*(k+1)) (decD (a*10000^k+b))=padz 4 (decD a)++(if k=0 then [] else padz (4*k) (decD b)):=by
 by_cases hk:k=0
 ·subst hk
  rw [if_pos rfl,Nat.pow_zero] at *
  rw [show b=0 by omega];simp
 ·rw [if_neg hk]
  have hl:(decD b).length≤4*k:=by
   have e:10000^k=10^(4*k):=by rw [show (10000:Nat)=10^4 by decide,←Nat.pow_mul]
   obtain ⟨j,hj⟩: ∃j,4*k=j+1:=⟨4*k-1,by omega⟩
   rw [e,hj] at hb
   rw [hj];exact decD_len j b hb
  have hl4:(decD a).length≤4:=decD_len 3 a (by simpa using ha)
  have hp:=decD_pos b
  by_cases h0:a=0
  ·subst h0
   rw [Nat.zero_mul,Nat.zero_add,padz_dec_zero 3]
   unfold padz
   rw [←List.append_assoc,List.replicate_append_replicate]
   congr 2
   omega
  ·rw [dec_four a b k (by omega) hb (by omega)]
   have h1:=padz_len (4*k) (decD b)
   unfold padz at h1 ⊢
   rw [List.length_append,h1,←List.append_assoc]
   congr 3
   omega
end Go.Ulp
