/- ExpoExps: what the proof leans on, part 22 (Td Ds Dk Rm Se6 Se7 Sg3 Eh0 Eh1 Su1 Su2 Su3 Eh2 Gp26 Tx0 Tx1 Zv Tx3 RegM). -/
import Derived.Lib.ItoaNum
import Derived.Laws.Concat
import Derived.Test.YtehhegbkahnhgaaGreatDoorKExpoExps2
import Derived.Test.YtehhegbkahnhgaaGreatDoorKExpoExps7
import Derived.Test.YtehhegbkahnhgaaGreatDoorKExpoExps8
import Derived.Test.YtehhegbkahnhgaaGreatDoorKExpoExps9
import Derived.Test.YtehhegbkahnhgaaGreatDoorKExpoExps11
import Derived.Test.YtehhegbkahnhgaaGreatDoorKExpoExps14
import Derived.Test.YtehhegbkahnhgaaGreatDoorKExpoExps15
import Derived.Test.YtehhegbkahnhgaaGreatDoorKExpoExps18
import Derived.Test.YtehhegbkahnhgaaGreatDoorKExpoExps19
import Derived.Test.YtehhegbkahnhgaaGreatDoorKExpoExps20
import Derived.Test.YtehhegbkahnhgaaGreatDoorKExpoExps21
set_option linter.unusedVariables false
set_option linter.unusedSimpArgs false
namespace Go.Ulp
open Go.RowKit
theorem VD.none (w:World):VD w (0,0) (.agg #[.bool false,.slice none 0 0,.int .i64 0]):=⟨Option.none,0,rfl,Ns.nil⟩
end Go.Ulp
namespace Go.Proofs.YtehhegbkahnhgaaGreatDoor
open Go.RowKit Go.Ulp
set_option maxHeartbeats 1000000
set_option maxRecDepth 100000
end Go.Proofs.YtehhegbkahnhgaaGreatDoor
namespace Go.Ulp
open Go.RowKit
def Fact.ds (n:Bool) (s:Value) (x:Int):Fact:=⟨fun v w=> ∃g,v=.slice (some ⟨g,0,none⟩) 1 1∧DC w g 0 n s x,fun _ _ _ h hb=>by
 obtain ⟨g,h1,h2⟩:=h
 exact ⟨g,h1,h2.below hb⟩⟩
end Go.Ulp
namespace Go.Proofs.YtehhegbkahnhgaaGreatDoor
open Go.RowKit Go.Ulp
set_option maxHeartbeats 2000000
set_option maxRecDepth 100000
end Go.Proofs.YtehhegbkahnhgaaGreatDoor
namespace Go.Ulp
open Go.RowKit
end Go.Ulp
namespace Go.Proofs.YtehhegbkahnhgaaGreatDoor
open Go.RowKit Go.Ulp
set_option maxHeartbeats 1000000
set_option maxRecDepth 100000
end Go.Proofs.YtehhegbkahnhgaaGreatDoor
namespace Go.Ulp
open Go.RowKit
end Go.Ulp
namespace Go.Proofs.YtehhegbkahnhgaaGreatDoor
open Go.RowKit Go.Ulp
set_option maxHeartbeats 2000000
set_option maxRecDepth 100000
theorem zsign_any (a0:Option Addr) (c0:Nat) (x:Int) (w:World) (h0:Nz 3 w a0 c0 (zl x)):
 Calls Tryz.prog 88 #[.agg #[.bool (zneg x),.slice a0 (zl x).length c0]] w fun e w'=>e=.returned (.int .i64 (cmpI x 0))∧Below w.heap.size w w':=by
 have yb0:=below_alloc w (.cells #[.bool (zneg x),.slice a0 (zl x).length c0] 47)
 have h1:=h0.below yb0
 have ZC:=hid (show ∀w,Nz 3 w a0 c0 (zl x)→Calls Tryz.prog 80 #[.agg #[.bool (zneg x),.slice a0 (zl x).length c0],.agg #[.bool false,.slice none 0 0]] w fun e w'=>e=.returned (.int .i64 (cmpI x 0))∧Below w.heap.size w w' from fun w h=>zcmp_any a0 none c0 0 x 0 w h (Nz.nil' none 0 (by decide)))
 have zA:ZL 47 (w.alloc (.cells #[.bool (zneg x),.slice a0 (zl x).length c0] 47)) w.heap.size (zneg x) (.slice a0 (zl x).length c0):=ZL.made rfl
 obtain ⟨j0,j1,-,-,-⟩:=id zA
 clear h0
 go_enter Tryz.func88,Tryz.ntmps88
 go_wp2_with (go_at_call 80;(with_reducible refine (ZC.out _ h1).mono ?_);rintro en w1 ⟨rfl,hb1⟩)
 refine bodyPost_ret (by simp [results,Tryz.results88,go_sem];try rfl) rfl ?_
 exact ⟨rfl,below_trans yb0 hb1⟩
end Go.Proofs.YtehhegbkahnhgaaGreatDoor
namespace Go.Ulp
open Go.RowKit
def FL (D:Dy) (pl:Nat):Prop:=(limbs D.1.natAbs).length≤4294967296∧(-274877906944≤D.2∧D.2≤274877906944)∧(limbs (cutN (decide (D.1<0)) D.1.natAbs (-(pl:Int)-D.2) 2)).length≤4294967296
end Go.Ulp
namespace Go.Proofs.YtehhegbkahnhgaaGreatDoor
open Go.RowKit Go.Ulp
set_option maxHeartbeats 4000000
set_option maxRecDepth 100000
end Go.Proofs.YtehhegbkahnhgaaGreatDoor
namespace Go.Ulp
open Go.RowKit
def GoodE (m:Nat) (e:Int) (neg:Bool) (p:Nat) (D E:Dy):Prop:=20≤p∧p≤34359738368∧ ∃n,n≤p∧(grT (tS m (bl m) e p) p n).2≤1∧D=nrm ((ebP (growP m (bl m) e p n) p neg).1:Int) (-(p:Int))∧E=nrm ((ebP (growP m (bl m) e p n) p neg).2:Int) (-(p:Int))
theorem ebP_len (x:PP) (p:Nat) (neg:Bool) (h1:x.1≤2^(p+201326592)) (h2:x.2≤2^(p+201326592)) (h3:2^p≤x.1) (h4:x.1≤x.2):(ebP x p neg).1≤2^(p+201326592)∧(ebP x p neg).2≤2^(p+201326592):=by
 unfold ebP
 split
 ·have a:2^p*2^p/x.1≤2^p:=Nat.div_le_of_le_mul (Nat.mul_le_mul_right _ h3)
  have b:2^p*2^p/x.2≤2^p:=Nat.div_le_of_le_mul (Nat.mul_le_mul_right _ (Nat.le_trans h3 h4))
  have c:2^(p+1)≤2^(p+201326592):=Nat.pow_le_pow_right (by omega) (by omega)
  have d:=Nat.two_pow_pos p
  rw [Nat.pow_succ] at c
  exact ⟨by show _/_≤_;omega,by show _/_+1≤_;omega⟩
 ·exact ⟨h1,h2⟩
def LnFl (m:Nat) (e:Int) (pl:Nat) (z:Int):Prop:= ∃D W x,0<D∧LnOK m e D W x∧x.1*((2^pl:Nat):Int)/(D:Int)=z∧x.2*((2^pl:Nat):Int)/(D:Int)=z
theorem LnFl.uniq {m:Nat} {e:Int} {pl:Nat} {z y:Int} (h:LnFl m e pl z) (k:LnFl m e pl y):z=y:=by
 obtain ⟨D,W,x,h1,h2,h3,h4⟩:=h
 obtain ⟨D',W',x',k1,k2,k3,k4⟩:=k
 exact h2.uniq k2 h1 k1 pl z y h3 h4 k3 k4
end Go.Ulp
namespace Go.Proofs.YtehhegbkahnhgaaGreatDoor
open Go.RowKit Go.Ulp
set_option maxHeartbeats 4000000
set_option maxRecDepth 100000
end Go.Proofs.YtehhegbkahnhgaaGreatDoor
namespace Go.Ulp
open Go.RowKit
def NB (D:Dy):Prop:=(limbs D.1.natAbs).length≤4294967296∧(-100000000000≤D.2∧D.2≤100000000000)∧IsN D
def RetNear (w:World) (mode:Int) (Good:Nat→Dy→Dy→Prop) (en:Ending) (w':World):Prop:= ∃p D E,Good p D E∧rX D mode=rX E mode∧rC D mode=true∧rC E mode=true∧en=.returned (.tuple #[.int .u64 (rX D mode),.bool true,.int .i64 0])∧Below w.heap.size w w'
end Go.Ulp
namespace Go.Proofs.YtehhegbkahnhgaaGreatDoor
open Go.RowKit Go.Ulp
set_option maxHeartbeats 4000000
set_option maxRecDepth 100000
theorem near_any (mode:Int) (fn:Nat) (cp:Value) (Good:Nat→Dy→Dy→Prop) (w:World) (hfn: ∀(p:Int) w,Sem.run Tryz.prog (callFunc fn #[.int .i64 p,cp]) w=.ok (.enter fn #[.int .i64 p,cp]) w)
 (hG1: ∀p D E,Good p D E→NB D∧NB E) (hEnd: ∀p D E,Good p D E→17179869184≤p→rX D mode=rX E mode∧rC D mode=true∧rC E mode=true)
 (hC: ∀(p:Nat) w',256≤p→p≤17179869184→Below w.heap.size w w'→Calls Tryz.prog fn #[.int .i64 (p:Int),cp] w' fun en w''=> ∃D E,Good p D E∧RetVD2 w' D E en w''):
 Calls Tryz.prog 48 #[.int .i64 mode,.func (.func fn) #[] #[cp]] w (RetNear w mode Good):=by
 have HC:=hid hC
 have NU:=hid (fun v D w h (f:NB D)=>numberD_any v D mode w h f.1 f.2.1 f.2.2)
 clear hC
 go_enter Tryz.func48,Tryz.ntmps48
 go_upto_region 1 with fail
 go_wp2_with fail
 go_loopw [7] (fun s7 wr=> ∃k:Nat,s7=.int .i64 ((2^k:Nat):Int)∧8≤k∧k≤34∧Below w.heap.size w wr) (fun s7 _=>34359738369-(intOf s7).toNat)
 case atStart=>exact ⟨8,rfl,by omega,by omega,Below.refl _ _⟩
 case round=>
 obtain ⟨k,rfl,hk1,hk2,yr⟩:=hrel
 obtain ⟨p,hp⟩: ∃p,p=2^k:=⟨_,rfl⟩
 have hp1:256≤p:=by rw [hp];exact Nat.pow_le_pow_right (n:=2) (by omega) hk1
 have hp2:p≤17179869184:=by rw [hp];exact Nat.pow_le_pow_right (n:=2) (by omega) hk2
 have HK:=hid (show p<17179869184→ ∃k',p*2=2^k'∧8≤k'∧k'≤34 from fun h=>by
  have h9:2^k<2^34:=by rw [←hp];exact h
  have:=(Nat.pow_lt_pow_iff_right (a:=2) (by omega)).1 h9
  exact ⟨k+1,by rw [hp,Nat.pow_succ],by omega,by omega⟩)
 rw [←hp]
 clear hp hk1 hk2
 have HC1:=hid (fun w' hb=>HC.out p w' hp1 hp2 hb)
 have hfn1:=hfn (p:Int)
 go_upto_region 4 with ((with_reducible refine (HC1.out _ yr).mono ?_);rintro en w1 ⟨D,E,hgd,v1,u1,rfl,⟨a1,c1,rfl,n1⟩,⟨a2,c2,rfl,n2⟩,hb1⟩)
 obtain ⟨fD,fE⟩:=hG1 p D E hgd
 have hEn:=hid (hEnd p D E hgd)
 have MD:=hid (fun v w h=>NU.out v D w h fD)
 have ME:=hid (fun v w h=>NU.out v E w h fE)
 clear fD fE hG1 hEnd NU hfn1
 have hgd1:=hid hgd
 obtain ⟨g7,hg7⟩: ∃g,g=w1.heap.size:=⟨_,rfl⟩
 refine wp_wld9 (fun WW=>Below w.heap.size w WW∧QL 38 WW w1.heap.size (decide (D.1<0)) (.slice a1 (limbs D.1.natAbs).length c1) D.2∧QL 38 WW (w1.heap.size+1) (decide (E.1<0)) (.slice a2 (limbs E.1.natAbs).length c2) E.2∧Ns .u32 WW a1 c1 (limbs D.1.natAbs)∧Ns .u32 WW a2 c2 (limbs E.1.natAbs)) ⟨below_trans (below_trans (below_trans yr hb1) (below_alloc _ _)) (below_alloc _ _),(QL.made rfl).alloc _,QL.made (by simp),(n1.below (below_alloc _ _)).below (below_alloc _ _),(n2.below (below_alloc _ _)).below (below_alloc _ _)⟩ ?_
 rw [←hg7]
 clear hb1 yr n1 n2 hg7 HC1
 intro W2 ⟨yr,q7,q8,n1,n2⟩
 have VD1:VD W2 D (.agg #[.bool (decide (D.1<0)),.slice a1 (limbs D.1.natAbs).length c1,.int .i64 D.2]):=⟨a1,c1,rfl,n1⟩
 have VE1:VD W2 E (.agg #[.bool (decide (E.1<0)),.slice a2 (limbs E.1.natAbs).length c2,.int .i64 E.2]):=⟨a2,c2,rfl,n2⟩
 obtain ⟨⟨i0,i1,-⟩,i2,-⟩:=id q7
 have HRET:=hid (show ∀w',rX D mode=rX E mode→rC D mode=true→rC E mode=true→Below w.heap.size w w'→RetNear w mode Good (.returned (.tuple #[.int .u64 (rX D mode),.bool true,.int .i64 0])) w' from fun w' h1 h2 h3 h4=>⟨p,D,E,hgd1.out,h1,h2,h3,rfl,h4⟩)
 generalize rX D mode=XA at *
 generalize rX E mode=XB at *
 generalize rC D mode=cA at *
 generalize rC E mode=cB at *
 go_upto_region 5 with (go_at_call 68;(with_reducible refine (MD.out _ _ VD1).mono ?_);rintro en w3 ⟨rfl,hb3⟩)
 have q83:=q8.below hb3
 obtain ⟨⟨m0,m1,-⟩,m2,-⟩:=id q83
 go_upto_region 6 with (go_at_call 68;(with_reducible refine (ME.out _ _ (VE1.below hb3)).mono ?_);rintro en w4 ⟨rfl,hb4⟩)
 have yb4:=below_trans (below_trans yr hb3) hb4
 have wP:p<17179869184→IntKind.i64.wrap ((p:Int)*2)=((p*2:Nat):Int):=fun h=>by rw [IntWalk.i64_in _ (by omega)];omega
 clear i0 i1 i2 m0 m1 m2 q7 q8 q83 VD1 VE1 n1 n2 hb3 hb4 yr MD ME
 by_cases hEq:XA=XB
 ·have hb1:(XA==XB)=true:=beq_iff_eq.2 hEq
  cases cA
  ·have hpn:p<17179869184:=Nat.lt_of_not_le fun h=>absurd (hEn.out h).2.1 (by simp)
   have wP2:=wP hpn
   go_wp2_with fail
   go_roundw
   case rel=>(obtain ⟨k',e9,q1,q2⟩:=HK.out hpn;exact ⟨k',congrArg (Value.int .i64) (by rw [←e9];omega),q1,q2,yb4⟩)
   case measure=>simp [intOf];omega
  ·cases cB
   ·have hpn:p<17179869184:=Nat.lt_of_not_le fun h=>absurd (hEn.out h).2.2 (by simp)
    have wP2:=wP hpn
    go_wp2_with fail
    go_roundw
    case rel=>(obtain ⟨k',e9,q1,q2⟩:=HK.out hpn;exact ⟨k',congrArg (Value.int .i64) (by rw [←e9];omega),q1,q2,yb4⟩)
    case measure=>simp [intOf];omega
   ·have HX:=hid hEq
    clear hEq wP
    go_wp2_with fail
    refine bodyPost_ret (by simp [results,Tryz.results48,go_sem];try rfl) rfl ?_
    exact HRET.out _ HX.out (by trivial) (by trivial) yb4
 ·have hb1:(XA==XB)=false:=beq_eq_false_iff_ne.2 hEq
  have hpn:p<17179869184:=Nat.lt_of_not_le fun h=>hEq (hEn.out h).1
  have wP2:=wP hpn
  clear hEq
  go_wp2_with fail
  go_roundw
  case rel=>(obtain ⟨k',e9,q1,q2⟩:=HK.out hpn;exact ⟨k',congrArg (Value.int .i64) (by rw [←e9];omega),q1,q2,yb4⟩)
  case measure=>simp [intOf];omega
end Go.Proofs.YtehhegbkahnhgaaGreatDoor
namespace Go.Ulp
open Go.RowKit
theorem NB_nrm (x:Int) (p k:Nat) (h:x.natAbs≤2^k) (hk:k≤99000000000) (hp:p≤34359738368):NB (nrm x (-(p:Int))):=by
 have h':x.natAbs<2^(k+1):=Nat.lt_of_le_of_lt h (Nat.pow_lt_pow_right (by omega) (by omega))
 obtain ⟨h1,h2⟩:=nrm_bd x (-(p:Int)) (k+1) h'
 exact ⟨len_le (Nat.le_of_lt h1) (by omega),by omega,nrm_isN _ _⟩
end Go.Ulp
namespace Go.Proofs.YtehhegbkahnhgaaGreatDoor
open Go.RowKit Go.Ulp
set_option maxHeartbeats 4000000
set_option maxRecDepth 100000
end Go.Proofs.YtehhegbkahnhgaaGreatDoor
namespace Go.Ulp
open Go.RowKit
def AS (L:List Nat) (i:Nat) (inf:Int) (cl nn:Bool) (ng ps:Nat) (S:Int):Prop:=
 inf=infTo L i∧cl=clashTo L i∧nn=anyTo isNan L i∧ng=cntTo mZer L i∧ps=cntTo pZer L i∧S=sumTo L i
theorem AS.start (L:List Nat):AS L 0 0 false false 0 0 0:=⟨rfl,rfl,rfl,rfl,rfl,rfl⟩
theorem AS.inf {L:List Nat} {i:Nat} {inf:Int} {cl nn:Bool} {ng ps:Nat} {S:Int} (h:AS L i inf cl nn ng ps S) (hc:classOf (lb L i)=4):AS L (i+1) (lb L i) (cl||(decide (inf≠0)&&decide (inf≠lb L i))) nn ng ps S:=by
 obtain ⟨a,b,c,d,e,f⟩:=h
 subst a b c d e f
 unfold AS
 rw [show infTo L (i+1)=if isInf (lb L i) then lb L i else infTo L i from rfl,show clashTo L (i+1)=if isInf (lb L i) then clashTo L i||(decide (infTo L i≠0)&&decide (infTo L i≠lb L i)) else clashTo L i from rfl,
  show anyTo isNan L (i+1)=(anyTo isNan L i||isNan (lb L i)) from rfl,show cntTo mZer L (i+1)=cntTo mZer L i+(if mZer (lb L i) then 1 else 0) from rfl,show cntTo pZer L (i+1)=cntTo pZer L i+(if pZer (lb L i) then 1 else 0) from rfl,show sumTo L (i+1)=sumTo L i+uV (lb L i) from rfl]
 unfold mZer pZer isInf isNan isZer uV
 rw [hc]
 simp
theorem AS.val {L:List Nat} {i:Nat} {inf:Int} {cl nn:Bool} {ng ps:Nat} {S:Int} (h:AS L i inf cl nn ng ps S) (h5:classOf (lb L i)≠5) (h4:classOf (lb L i)≠4) (h1:classOf (lb L i)≠1):
 AS L (i+1) inf cl nn ng ps (S+uV (lb L i)):=by
 obtain ⟨a,b,c,d,e,f⟩:=h
 subst a b c d e f
 unfold AS
 rw [show infTo L (i+1)=if isInf (lb L i) then lb L i else infTo L i from rfl,show clashTo L (i+1)=if isInf (lb L i) then clashTo L i||(decide (infTo L i≠0)&&decide (infTo L i≠lb L i)) else clashTo L i from rfl,
  show anyTo isNan L (i+1)=(anyTo isNan L i||isNan (lb L i)) from rfl,show cntTo mZer L (i+1)=cntTo mZer L i+(if mZer (lb L i) then 1 else 0) from rfl,show cntTo pZer L (i+1)=cntTo pZer L i+(if pZer (lb L i) then 1 else 0) from rfl,show sumTo L (i+1)=sumTo L i+uV (lb L i) from rfl]
 unfold mZer pZer isInf isNan isZer
 have e5:(classOf (lb L i)==5)=false:=beq_eq_false_iff_ne.2 h5
 have e4:(classOf (lb L i)==4)=false:=beq_eq_false_iff_ne.2 h4
 have e1:(classOf (lb L i)==1)=false:=beq_eq_false_iff_ne.2 h1
 rw [e5,e4,e1]
 simp
section
variable {L:List Nat} {inf:Int} {cl nn:Bool} {ng ps:Nat} {S:Int} {mode:Int}
theorem AS.sNan (hL: ∀j,lb L j<18446744073709551616) (h:AS L L.length inf cl nn ng ps S):Go.Ulp.sNan L=(nn||cl):=by
 obtain ⟨a,b,c,d,e,f⟩:=h
 unfold Go.Ulp.sNan
 rw [c,b]
 rcases inf_state L hL L.length with ⟨x,y,z,t⟩|⟨x,y,t⟩|⟨x,y,t⟩
 ·rw [t,y,z];rfl
 ·rw [t,y];simp
 ·rw [t,y];simp
theorem AS.sInf (hL: ∀j,lb L j<18446744073709551616) (h:AS L L.length inf cl nn ng ps S):Go.Ulp.sInf L=decide (inf≠0):=by
 obtain ⟨a,b,c,d,e,f⟩:=h
 unfold Go.Ulp.sInf
 rw [a]
 rcases inf_state L hL L.length with ⟨x,y,z,t⟩|⟨x,y,t⟩|⟨x,y,t⟩
 ·rw [x,y,z];rfl
 ·rw [x,y];simp
 ·rw [x,y];simp
end
end Go.Ulp
namespace Go.Proofs.YtehhegbkahnhgaaGreatDoor
open Go.RowKit Go.Ulp
set_option maxHeartbeats 2000000
set_option maxRecDepth 100000
end Go.Proofs.YtehhegbkahnhgaaGreatDoor
namespace Go.Ulp
open Go.RowKit
def QV (t e:TypeId) (w:World) (g:Nat) (D:Dy) (A T:Nat):Prop:=
 ∃(x:Int) (n:Nat) (ao:Option Addr) (cap:Nat),QL t w g (zneg x) (.slice ao (zl x).length cap) (n:Int)∧Nz e w ao cap (zl x)∧nrm x (-(n:Int))=D∧x.natAbs<2^A∧n≤T
theorem QV.below {t e:TypeId} {w w':World} {g:Nat} {D:Dy} {A T:Nat} (h:QV t e w g D A T) (hb:Below w.heap.size w w'):QV t e w' g D A T:=by
 obtain ⟨x,n,ao,cap,h1,h2,h3⟩:=h
 exact ⟨x,n,ao,cap,h1.below hb,h2.below hb,h3⟩
theorem QV.weak {t e:TypeId} {w:World} {g:Nat} {D:Dy} {A T A' T':Nat} (h:QV t e w g D A T) (hA:A≤A') (hT:T≤T'):QV t e w g D A' T':=by
 obtain ⟨x,n,ao,cap,h1,h2,h3,h4,h5⟩:=h
 exact ⟨x,n,ao,cap,h1,h2,h3,abs_weak h4 hA,by omega⟩
theorem QV.zero {t e:TypeId} {w:World} (A T:Nat):QV t e (w.alloc (.cells #[.bool false,.slice none 0 0,.int .i64 0] t)) w.heap.size (0,0) A T:=
 ⟨0,0,none,0,QL.made rfl,Nz.nil' none 0 (by unfold maxLen;omega),nrm_zero _,Nat.two_pow_pos A,Nat.zero_le _⟩
def BS (L:List Nat) (i:Nat) (pl mi nn:Bool) (zs sg:Nat) (S:Int):Prop:=
 pl=anyTo pInf L i∧mi=anyTo mInf L i∧nn=anyTo isNan L i∧zs=cntTo isZer L i∧sg=cntTo mZer L i∧S=sumTo L i
theorem BS.start (L:List Nat):BS L 0 false false false 0 0 0:=⟨rfl,rfl,rfl,rfl,rfl,rfl⟩
section
variable {L:List Nat} {pl mi nn:Bool} {zs sg:Nat} {S:Int} {mode:Int}
theorem BS.none (h:BS L L.length pl mi nn zs sg S) (hb:(nn||(pl&&mi))=false) (hi:(pl||mi)=false):sNan L=false∧sInf L=false:=by
 obtain ⟨a,b,c,d,e,f⟩:=h
 exact ⟨by unfold sNan;rw [←a,←b,←c];exact hb,by unfold sInf;rw [←a,←b];exact hi⟩
end
end Go.Ulp
namespace Go.Proofs.YtehhegbkahnhgaaGreatDoor
open Go.RowKit Go.Ulp
set_option maxHeartbeats 2000000
set_option maxRecDepth 100000
end Go.Proofs.YtehhegbkahnhgaaGreatDoor
namespace Go.Ulp
open Go.RowKit
def mdX (mode x:Int):Int:=if knownB mode=true then x else 0
def mdC (mode:Int) (c:Bool):Bool:=if knownB mode=true then c else false
def mdE (mode:Int):Int:=if knownB mode=true then 0 else 1
theorem md_yes {mode:Int} (h:knownB mode=true) (x:Int) (c:Bool):mdX mode x=x∧mdC mode c=c∧mdE mode=0:=by
 unfold mdX mdC mdE;rw [if_pos h,if_pos h,if_pos h];exact ⟨rfl,rfl,rfl⟩
theorem md_no {mode:Int} (h:knownB mode=false) (x:Int) (c:Bool):mdX mode x=0∧mdC mode c=false∧mdE mode=1:=by
 unfold mdX mdC mdE;rw [h];exact ⟨rfl,rfl,rfl⟩
def CV (w:World) (g:Nat) (v:Value):Prop:=w.cell? ⟨g,0,none⟩=some v∧w.frozen? ⟨g,0,none⟩=false
theorem CV.below {w w':World} {g:Nat} {v:Value} (h:CV w g v) (hb:Below w.heap.size w w'):CV w' g v:=
 ⟨(hb.cell (World.block_lt_of_cell? _ _ h.1)).trans h.1,(hb.frozen (World.block_lt_of_cell? _ _ h.1)).trans h.2⟩
theorem CV.made {w:World} {v:Value} {t:TypeId}:CV (w.alloc (.cells #[v] t)) w.heap.size v:=by
 constructor
 ·rw [World.cell?_alloc_at (hn:=rfl)];rfl
 ·simp
end Go.Ulp
namespace Go.Proofs.YtehhegbkahnhgaaGreatDoor
open Go.RowKit Go.Ulp
set_option maxHeartbeats 2000000
set_option maxRecDepth 100000
theorem told_md (x:Int) (ch:Bool) (mode:Int) (fn:Nat) (caps:Array Value) (w:World) (hfn: ∀w,Sem.run Tryz.prog (callFunc fn caps) w=.ok (.enter fn caps) w) (hC:knownB mode=true→ ∀w',Below w.heap.size w w'→Calls Tryz.prog fn caps w' (RetX w' x ch)):
 Calls Tryz.prog 7 #[.int .u64 (mdX mode x),.bool (mdC mode ch),.int .i64 (mdE mode),.int .i64 mode,.func (.func fn) #[] caps] w fun e w'=>e=.returned (.bool true)∧Below w.heap.size w w':=by
 have BT:=hid (show ∀w,Calls Tryz.prog 26 #[.int .i64 mode,.int .i64 0,.int .i64 4] w fun e w'=>e=.returned (.bool (knownB mode))∧w=w' from fun w=>between_any mode 0 4 w)
 cases hk:knownB mode
 ·obtain ⟨e1,e2,e3⟩:=md_no hk x ch
  rw [e1,e2,e3]
  rw [hk] at BT
  clear e1 e2 e3 hC hk
  go_enter Tryz.func7,Tryz.ntmps7
  go_wp2_with (go_at_call 26;(with_reducible refine (BT.out _).mono ?_);rintro en w1 ⟨rfl,rfl⟩)
  go_ret
  exact ⟨rfl,Below.refl _ _⟩
 ·obtain ⟨e1,e2,e3⟩:=md_yes hk x ch
  rw [e1,e2,e3]
  have HC:=hid (hC hk w (Below.refl _ _))
  rw [hk] at BT
  clear e1 e2 e3 hC hk
  go_enter Tryz.func7,Tryz.ntmps7
  go_wp2_with (first
   |(go_at_call 26;(with_reducible refine (BT.out _).mono ?_);rintro en w1 ⟨rfl,rfl⟩)
   |((with_reducible refine HC.out.mono ?_);rintro en w2 ⟨rfl,hb2⟩))
  go_ret
  exact ⟨ret_bool (by simp),hb2⟩
end Go.Proofs.YtehhegbkahnhgaaGreatDoor
namespace Go.Ulp
open Go.RowKit
theorem fv_sgn9 (x:Int) (h0:0≤x) (h1:x<18446744073709551616):sgn (fv x).1=cmpI (rankOf x) 0:=by
 have h:=cmp_fv x 0 h0 h1 (by omega) (by omega)
 rw [show fv 0=(0,0) by decide,cmpD_zero,show rankOf 0=0 by decide] at h
 exact h
def LgSaid (x mode X:Int) (ch:Bool):Prop:=
 if classOf x=1 then X=18442240474082181120∧ch=false else if classOf x=5∨negB x=true then X=9221120237041090560∧ch=false else if x=9218868437227405312 then X=x∧ch=false else if x=4607182418800017408 then X=0∧ch=false else ch=true∧LnR (fv x).1.natAbs (fv x).2 mode X
theorem LgSaid.uniq {x mode X Y:Int} {c d:Bool} (h:LgSaid x mode X c) (k:LgSaid x mode Y d):X=Y∧c=d:=by
 unfold LgSaid at h k
 split at h
 ·rename_i h1;rw [if_pos h1] at k;exact ⟨h.1.trans k.1.symm,h.2.trans k.2.symm⟩
 ·rename_i h1;rw [if_neg h1] at k
  split at h
  ·rename_i h1;rw [if_pos h1] at k;exact ⟨h.1.trans k.1.symm,h.2.trans k.2.symm⟩
  ·rename_i h1;rw [if_neg h1] at k
   split at h
   ·rename_i h1;rw [if_pos h1] at k;exact ⟨h.1.trans k.1.symm,h.2.trans k.2.symm⟩
   ·rename_i h1;rw [if_neg h1] at k
    split at h
    ·rename_i h1;rw [if_pos h1] at k;exact ⟨h.1.trans k.1.symm,h.2.trans k.2.symm⟩
    ·rename_i h1;rw [if_neg h1] at k;exact ⟨h.2.uniq k.2,h.1.trans k.1.symm⟩
def RetE9 (w:World) (mode:Int) (Said:Int→Bool→Prop) (en:Ending) (w':World):Prop:= ∃X ch,(knownB mode=true→Said X ch)∧RetX3 w (mdX mode X) (mdC mode ch) (mdE mode) en w'
theorem RetE9.no {w w':World} {mode:Int} {Said:Int→Bool→Prop} {en:Ending} (hk:knownB mode=false) (h:RetX3 w 0 false 1 en w'):RetE9 w mode Said en w':=by
 obtain ⟨e1,e2,e3⟩:=md_no hk 0 false
 refine ⟨0,false,?_,?_⟩
 ·intro h2;rw [hk] at h2;cases h2
 ·rw [e1,e2,e3];exact h
theorem RetE9.yes {w w':World} {mode:Int} {Said:Int→Bool→Prop} {en:Ending} (hk:knownB mode=true) {X:Int} {ch:Bool} (hs:Said X ch) (h:RetX3 w X ch 0 en w'):RetE9 w mode Said en w':=by
 obtain ⟨e1,e2,e3⟩:=md_yes hk X ch
 exact ⟨X,ch,fun _=>hs,by rw [e1,e2,e3];exact h⟩
theorem lt_1280 {m:Nat} (h:m<2^53):m<2^1280:=by
 obtain ⟨z,hz⟩: ∃z,z=1280:=⟨_,rfl⟩
 rw [←hz]
 exact Nat.lt_of_lt_of_le h (Nat.pow_le_pow_right (by omega) (by omega))
theorem known_bd {mode:Int} (h:knownB mode=true):0≤mode∧mode≤4:=by unfold knownB at h;exact of_decide_eq_true h
end Go.Ulp
namespace Go.Proofs.YtehhegbkahnhgaaGreatDoor
open Go.RowKit Go.Ulp
set_option maxHeartbeats 4000000
set_option maxRecDepth 100000
end Go.Proofs.YtehhegbkahnhgaaGreatDoor
namespace Go.Ulp
theorem ep_le_pow {c:Rat} (h0:0≤c): ∀n,ep c n≤c^n
 |0=>by rw [Rat.pow_zero];exact Rat.le_refl
 |n+1=>by
  have ih:=ep_le_pow h0 n
  have e0:=ep_nonneg c h0 n
  have hs:=ep_succ c n
  have e1:=ep_nonneg c h0 (n+1)
  rw [Rat.pow_succ]
  have k:ep c n*c≤c^n*c:=Rat.mul_le_mul_of_nonneg_right ih h0
  have g:(1:Rat)≤((n+1:Nat):Rat):=natle (show 1≤n+1 by omega)
  have g2:=Rat.mul_le_mul_of_nonneg_right g e1
  grind
theorem EE_geo {c:Rat} (h0:0≤c) (h1:c≤1): ∀T,(1-c)*EE c T≤1-c^T
 |0=>by
  rw [Rat.pow_zero]
  show (1-c)*0≤_
  grind
 |T+1=>by
  have ih:=EE_geo h0 h1 T
  have e:EE c (T+1)=EE c T+ep c T:=rfl
  have p:=ep_le_pow h0 T
  have p2:=Rat.mul_le_mul_of_nonneg_left p (show (0:Rat)≤1-c by grind)
  rw [e,Rat.pow_succ]
  grind
open Go.RowKit
abbrev decD:=Lib.decDigits
theorem decD_small {n:Nat} (h:n<10):decD n= [UInt8.ofNat (48+n)]:=by unfold decD;rw [Lib.decDigits,dif_pos h]
theorem decD_big {n:Nat} (h: ¬n<10):decD n=decD (n/10)++ [UInt8.ofNat (48+n%10)]:=by unfold decD;conv=>lhs;rw [Lib.decDigits,dif_neg h]
theorem decD_step (q d:Nat) (hq:0<q) (hd:d<10):decD (q*10+d)=decD q++ [UInt8.ofNat (48+d)]:=by
 rw [decD_big (by omega),show (q*10+d)/10=q by omega,show (q*10+d)%10=d by omega]
def padz (k:Nat) (L:List UInt8):List UInt8:=List.replicate (k-L.length) 48++L
theorem padz_len (k:Nat) (L:List UInt8):(padz k L).length=max k L.length:=by unfold padz;rw [List.length_append,List.length_replicate];omega
theorem padz_cons (k:Nat) (L:List UInt8) (h:L.length<k):padz k (48::L)=padz k L:=by
 unfold padz
 obtain ⟨j,hj⟩: ∃j,k-L.length=j+1:=⟨k-L.length-1,by omega⟩
 rw [List.length_cons,show k-(L.length+1)=j by omega,hj,List.replicate_succ']
 simp
theorem padz_snoc (k:Nat) (L:List UInt8) (c:UInt8):padz (k+1) (L++ [c])=padz k L++ [c]:=by
 unfold padz
 rw [List.length_append,List.length_singleton,show k+1-(L.length+1)=k-L.length by omega,List.append_assoc]
theorem decD_pos (n:Nat):0<(decD n).length:=by
 by_cases h:n<10
 ·rw [decD_small h];simp
 ·rw [decD_big h];simp
theorem decD_ne (n:Nat):decD n≠ []:=fun h=>by have:=decD_pos n;rw [h] at this;simp at this
theorem decD_len: ∀(k n:Nat),n<10^(k+1)→(decD n).length≤k+1
 |0,n,h=>by rw [decD_small (by simpa using h)];simp
 |k+1,n,h=>by
  by_cases hn:n<10
  ·rw [decD_small hn];simp
  ·rw [decD_big hn,List.length_append,List.length_singleton]
   have:=decD_len k (n/10) (by rw [Nat.pow_succ] at h;omega)
   omega
theorem padz_dec_zero (k:Nat):padz (k+1) (decD 0)=List.replicate (k+1) 48:=by
 rw [decD_small (by omega)]
 unfold padz
 show List.replicate k 48++ [(48:UInt8)]=_
 rw [List.replicate_succ']
theorem dec_split: ∀(k q r:Nat),0<q→r<10^(k+1)→decD (q*10^(k+1)+r)=decD q++padz (k+1) (decD r)
 |0,q,r,hq,hr=>by
  have hr':r<10:=by simpa using hr
  rw [Nat.pow_succ,Nat.pow_zero,Nat.one_mul,decD_step q r hq hr',decD_small hr']
  rfl
 |k+1,q,r,hq,hr=>by
  have hr2:r/10<10^(k+1):=by rw [Nat.pow_succ] at hr;omega
  have ih:=dec_split k q (r/10) hq hr2
  have e:q*10^(k+1+1)+r=(q*10^(k+1)+r/10)*10+r%10:=by
   rw [Nat.pow_succ,←Nat.mul_assoc];omega
  have hp:0<q*10^(k+1):=Nat.mul_pos hq (Nat.pow_pos (by omega))
  rw [e,decD_step _ _ (by omega) (Nat.mod_lt _ (by omega)),ih,List.append_assoc]
  congr 1
  rw [←padz_snoc]
  by_cases hs:r<10
  ·rw [show r/10=0 by omega,show r%10=r by omega,decD_small hs,decD_small (by omega:0<10)]
   exact padz_cons (k+1+1) [UInt8.ofNat (48+r)] (by simp)
  ·rw [←decD_big hs]
theorem dec_four (a b k:Nat) (h:0<a) (hb:b<10000^k) (hk:0<k):decD (a*10000^k+b)=decD a++padz (4*k) (decD b):=by
 have e:10000^k=10^(4*k):=by rw [show (10000:Nat)=10^4 by decide,←Nat.pow_mul]
 obtain ⟨j,hj⟩: ∃j,4*k=j+1:=⟨4*k-1,by omega⟩
 rw [e,hj] at hb ⊢
 exact dec_split j a b h hb
theorem pad_four (a b k:Nat) (ha:a<10000) (hb:b<10000^k):padz (4*(k+1)) (decD (a*10000^k+b))=padz 4 (decD a)++(if k=0 then [] else padz (4*k) (decD b)):=by
 by_cases hk:k=0
 ·subst hk
  rw [if_pos rfl,Nat.pow_zero] at *
  rw [show b=0 by omega];simp
 ·rw [if_neg hk]
  have hl:(decD b).length≤4*k:=by
   have e:10000^k=10^(4*k):=by rw [show (10000:Nat)=10^4 by decide,←Nat.pow_mul]
   obtain ⟨j,hj⟩: ∃j,4*k=j+1:=⟨4*k-1,by omega⟩
   rw [e,hj] at hb
   rw [hj];exact decD_len j b hb
  have hl4:(decD a).length≤4:=decD_len 3 a (by simpa using ha)
  have hp:=decD_pos b
  by_cases h0:a=0
  ·subst h0
   rw [Nat.zero_mul,Nat.zero_add,padz_dec_zero 3]
   unfold padz
   rw [←List.append_assoc,List.replicate_append_replicate]
   congr 2
   omega
  ·rw [dec_four a b k (by omega) hb (by omega)]
   have h1:=padz_len (4*k) (decD b)
   unfold padz at h1 ⊢
   rw [List.length_append,h1,←List.append_assoc]
   congr 3
   omega
def bsOf (L:List UInt8):ByteArray:=⟨L.toArray⟩
theorem bs_size (L:List UInt8):(bsOf L).size=L.length:=by simp [bsOf,ByteArray.size]
theorem bs_toList (L:List UInt8):(bsOf L).toList=L:=by unfold bsOf;exact ByteArray.toList_mk L
theorem bs_app (A B:List UInt8):bsOf A++bsOf B=bsOf (A++B):=by
 apply ByteArray.ext
 simp [bsOf]
theorem ret_bs {A B:List UInt8} (h:A=B):Ending.returned (.string (bsOf A))=.returned (.string (bsOf B)):=by rw [h]
theorem add_bs {P:Program} (A B:List UInt8) (h:A.length+B.length≤9223372036854775807) (w:World):(Op.stringOp .add (bsOf A) (bsOf B)).run P w=.ok (.string (bsOf (A++B))) w:=by
 rw [run_string_add_sum w _ _ (by rw [bs_size,bs_size];exact h),bs_app]
theorem digit_str: ∀d:Nat,d<10→(ByteArray.mk #[48,49,50,51,52,53,54,55,56,57]).extract d (d+1)=⟨#[UInt8.ofNat (48+d)]⟩:=by decide
def dch (d:Nat):UInt8:=UInt8.ofNat (48+d)
def txt (L:List Nat) (i:Nat):List UInt8:=if i=0 then [] else if i<L.length then padz (4*i) (decD (val 10000 (L.take i))) else decD (val 10000 (L.take i))
theorem txt_zero (L:List Nat):txt L 0= []:=if_pos rfl
theorem txt_step (L:List Nat) (hL:AllLt 10000 L) (hT:Trim L) (i:Nat) (hi:i<L.length):
 txt L (i+1)=(if i+1<L.length then padz 4 (decD (L.getD i 0)) else decD (L.getD i 0))++txt L i:=by
 have hd:L.getD i 0<10000:=hL.getD (by omega) i
 have hlt:(L.take i).length=i:=by rw [List.length_take];omega
 have hv:val 10000 (L.take i)<10000^i:=by
  have h9:=val_lt 10000 (L.take i) (fun d h=>hL d (List.mem_of_mem_take h))
  rwa [hlt] at h9
 have hs:val 10000 (L.take (i+1))=L.getD i 0*10000^i+val 10000 (L.take i):=by
  rw [val_take_succ 10000 L i hi,Nat.mul_comm,Nat.add_comm]
 obtain ⟨d,hdd⟩: ∃d,d=L.getD i 0:=⟨_,rfl⟩
 obtain ⟨b,hb⟩: ∃b,b=val 10000 (L.take i):=⟨_,rfl⟩
 have e1:txt L (i+1)=if i+1<L.length then padz (4*(i+1)) (decD (val 10000 (L.take (i+1)))) else decD (val 10000 (L.take (i+1))):=by unfold txt;rw [if_neg (by omega)]
 have e2:txt L i=if i=0 then [] else padz (4*i) (decD b):=by unfold txt;rw [if_pos hi,←hb]
 rw [e1,e2,hs,←hdd,←hb]
 rw [←hdd] at hd
 rw [←hb] at hv
 by_cases hn:i+1<L.length
 ·rw [if_pos hn,if_pos hn,pad_four d b i hd hv]
 ·rw [if_neg hn,if_neg hn]
  have hd0:0<d:=by
   have hne:L≠ []:=by intro h;rw [h] at hi;simp at hi
   have h9:=hT hne
   rw [List.getLast_eq_getElem] at h9
   rw [hdd,List.getD_eq_getElem?_getD,List.getElem?_eq_getElem hi]
   have e9:L.length-1=i:=by omega
   simp only [e9] at h9
   show 0<L[i]
   omega
  by_cases h0:i=0
  ·subst h0
   rw [if_pos rfl,Nat.pow_zero] at *
   rw [show b=0 by omega];simp
  ·rw [if_neg h0,dec_four d b i hd0 hv (by omega)]
theorem txt_end (m:Nat) (h:0<m):txt (decs m) (decs m).length=decD m:=by
 have hl:0<(decs m).length:=by
  rcases Nat.eq_zero_or_pos (decs m).length with h9|h9
  ·have:=(decs_nil m).1 (List.length_eq_zero_iff.1 h9);omega
  ·exact h9
 unfold txt
 rw [if_neg (by omega),if_neg (by omega),List.take_of_length_le (Nat.le_refl _)]
 congr 1
 exact val_digs 10000 (by omega) m
theorem txt_len (L:List Nat) (hL:AllLt 10000 L) (i:Nat) (hi:i≤L.length):(txt L i).length≤4*i:=by
 unfold txt
 have hlt:(L.take i).length=i:=by rw [List.length_take];omega
 have hv:val 10000 (L.take i)<10000^i:=by
  have h9:=val_lt 10000 (L.take i) (fun d h=>hL d (List.mem_of_mem_take h))
  rwa [hlt] at h9
 by_cases h0:i=0
 ·subst h0;simp
 ·have e:10000^i=10^(4*i):=by rw [show (10000:Nat)=10^4 by decide,←Nat.pow_mul]
  obtain ⟨j,hj⟩: ∃j,4*i=j+1:=⟨4*i-1,by omega⟩
  rw [e,hj] at hv
  have hl:=decD_len j _ hv
  rw [if_neg h0]
  split
  ·rw [padz_len];omega
  ·omega
def strSz (v:Value):Nat:=match v with| .string b=>b.size|_=>0
theorem strSz_bs (L:List UInt8):strSz (.string (bsOf L))=L.length:=bs_size L
theorem add_nil {P:Program} (B:List UInt8) (h:B.length≤1000000000000) (w:World):(Op.stringOp .add ⟨#[48]⟩ (bsOf B)).run P w=.ok (.string (bsOf (48::B))) w:=add_bs [48] B (by simp;omega) w
theorem add_dash {P:Program} (B:List UInt8) (h:B.length≤1000000000000) (w:World):(Op.stringOp .add ⟨#[45]⟩ (bsOf B)).run P w=.ok (.string (bsOf (45::B))) w:=add_bs [45] B (by simp;omega) w
theorem pad_end (D:List UInt8) (j:Nat) (b:Bool) (h1:D.length≤4) (h2:j=0∨(b=true∧j+D.length≤4)) (h3: ¬(j+D.length<4∧b=true)):List.replicate j 48++D=if b=true then padz 4 D else D:=by
 cases b
 ·rcases h2 with rfl|⟨h2,_⟩
  ·rfl
  ·cases h2
 ·have hj:j=4-D.length:=by
   have h4: ¬(j+D.length<4):=fun h=>h3 ⟨h,rfl⟩
   rcases h2 with h2|⟨_,h2⟩<;>omega
  rw [if_pos rfl,hj];rfl
def zTx (x:Int):List UInt8:=if x<0 then 45::decD x.natAbs else decD x.natAbs
end Go.Ulp
namespace Go.Proofs.YtehhegbkahnhgaaGreatDoor
open Go.RowKit Go.Ulp
set_option maxHeartbeats 1000000
set_option maxRecDepth 100000
theorem digits_any: ∀(k n:Nat),n<10^(k+1)→n<4611686018427387904→ ∀w,Calls Tryz.prog 133 #[.int .i64 (n:Int)] w fun e w'=>e=.returned (.string (bsOf (decD n)))∧w=w':=by
 intro k
 induction k with
 |zero=>
  intro n hn hb w
  have h10:(n:Int)<10:=by simp at hn;omega
  have HD:=hid (show decD n= [dch n] from decD_small (n:=n) (by simpa using hn))
  have hSL: ∀w,(Instr.slice 9 (.string ⟨#[48,49,50,51,52,53,54,55,56,57]⟩) (some (.int .i64 ((n:Int)%10))) (some (.int .i64 ((n:Int)%10+1))) none).run Tryz.prog w=.ok (.string (bsOf [dch n])) w:=fun w=>by
   have e1:((n:Int)%10).toNat=n:=by omega
   have e2:((n:Int)%10+1).toNat=n+1:=by omega
   rw [run_slice_string w 9 _ _ _ _ _ Tryz.underlying9 (by omega) (by omega) (by show _≤((10:Nat):Int);omega),e1,e2,digit_str n (by omega)]
   rfl
  clear hn
  go_enter Tryz.func133,Tryz.ntmps133
  go_wp2_with fail
  go_ret
  exact ⟨ret_bs HD.out.symm,rfl⟩
 |succ k ih=>
  intro n hn hb w
  by_cases hs:n<10
  ·have h10:(n:Int)<10:=by omega
   have HD:=hid (show decD n= [dch n] from decD_small (n:=n) hs)
   have hSL: ∀w,(Instr.slice 9 (.string ⟨#[48,49,50,51,52,53,54,55,56,57]⟩) (some (.int .i64 ((n:Int)%10))) (some (.int .i64 ((n:Int)%10+1))) none).run Tryz.prog w=.ok (.string (bsOf [dch n])) w:=fun w=>by
    have e1:((n:Int)%10).toNat=n:=by omega
    have e2:((n:Int)%10+1).toNat=n+1:=by omega
    rw [run_slice_string w 9 _ _ _ _ _ Tryz.underlying9 (by omega) (by omega) (by show _≤((10:Nat):Int);omega),e1,e2,digit_str n (by omega)]
    rfl
   clear hn ih hs
   go_enter Tryz.func133,Tryz.ntmps133
   go_wp2_with fail
   go_ret
   exact ⟨ret_bs HD.out.symm,rfl⟩
  ·have h10: ¬(n:Int)<10:=by omega
   have HD:=hid (show decD n=decD (n/10)++ [dch (n%10)] from decD_big (n:=n) hs)
   have hSL: ∀w,(Instr.slice 9 (.string ⟨#[48,49,50,51,52,53,54,55,56,57]⟩) (some (.int .i64 ((n:Int)%10))) (some (.int .i64 ((n:Int)%10+1))) none).run Tryz.prog w=.ok (.string (bsOf [dch (n%10)])) w:=fun w=>by
    have e1:((n:Int)%10).toNat=n%10:=by omega
    have e2:((n:Int)%10+1).toNat=n%10+1:=by omega
    rw [run_slice_string w 9 _ _ _ _ _ Tryz.underlying9 (by omega) (by omega) (by show _≤((10:Nat):Int);omega),e1,e2,digit_str (n%10) (by omega)]
    rfl
   have IHn:=hid (show ∀w,Calls Tryz.prog 133 #[.int .i64 ((n:Int)/10)] w fun e w'=>e=.returned (.string (bsOf (decD (n/10))))∧w=w' from fun w=>by
    have e:(n:Int)/10=((n/10:Nat):Int):=by omega
    rw [e]
    exact ih (n/10) (by rw [Nat.pow_succ] at hn;omega) (by omega) w)
   have hl:=decD_len 18 (n/10) (by omega)
   have hAB:=add_bs (P:=Tryz.prog) (decD (n/10)) [dch (n%10)] (by simp;omega)
   clear hn ih hs hl
   go_enter Tryz.func133,Tryz.ntmps133
   go_wp2_with (go_at_call 133;(with_reducible refine (IHn.out _).mono ?_);rintro en w1 ⟨rfl,rfl⟩)
   go_ret
   exact ⟨ret_bs HD.out.symm,rfl⟩
theorem zText_any (x:Int) (a0:Option Addr) (c0:Nat) (w:World) (h0:Nz 3 w a0 c0 (zl x)) (hl:(zl x).length≤2000000000):
 Calls Tryz.prog 131 #[.agg #[.bool (zneg x),.slice a0 (zl x).length c0]] w fun e w'=>e=.returned (.string (bsOf (zTx x)))∧Below w.heap.size w w':=by
 have HL:=hid (zl_dec x)
 have HT:=hid (show Trim (zl x) from decs_trim _)
 have hcap:=h0.1.1
 have hcap2:=h0.1.2.1
 unfold maxLen at hcap2
 have H3:=hid h0.1.2.2
 have hng:zneg x=decide (x<0):=rfl
 have HE:=hid (show 0<x.natAbs→txt (zl x) (zl x).length=decD x.natAbs from fun h=>txt_end x.natAbs h)
 have HZ:=hid (show (zl x).length=0→x=0 from fun h=>by have:=(decs_nil x.natAbs).1 (List.length_eq_zero_iff.1 h);omega)
 have HZ2:=hid (show x=0→(zl x).length=0 from fun h=>by rw [h];rfl)
 have ST:=hid (fun i hi=>txt_step (zl x) HL.out HT.out i hi)
 have TL:=hid (fun i hi=>txt_len (zl x) HL.out i hi)
 have hTXx:=hid (show zTx x=if x<0 then 45::decD x.natAbs else decD x.natAbs from rfl)
 obtain ⟨L,hL⟩: ∃L,L=zl x:=⟨_,rfl⟩
 rw [←hL] at HL HT H3 HE HZ HZ2 ST TL hl hcap ⊢
 obtain ⟨N,hN⟩: ∃N,N=L.length:=⟨_,rfl⟩
 rw [←hN] at H3 HE HZ HZ2 ST TL hl hcap ⊢
 have zA:ZL 47 (w.alloc (.cells #[.bool (zneg x),.slice a0 N c0] 47)) w.heap.size (zneg x) (.slice a0 N c0):=ZL.made rfl
 have yb:=below_alloc w (.cells #[.bool (zneg x),.slice a0 N c0] 47)
 obtain ⟨W0,hW0⟩: ∃W,W=w.alloc (.cells #[.bool (zneg x),.slice a0 N c0] 47):=⟨_,rfl⟩
 rw [←hW0] at zA yb
 have HC:=hid (show ∀i,i<N→ ∃b off,a0=some ⟨b,off,none⟩∧W0.cell? ⟨b,off+i,none⟩=some (.int .i64 ((L.getD i 0:Nat):Int)) from fun i hi=>by
  obtain ⟨b,off,e,hc⟩:=H3.out (by omega)
  exact ⟨b,off,e,(yb.cell (p:=⟨b,off+i,none⟩) (World.block_lt_of_cell? _ _ (hc i hi))).trans (hc i hi)⟩)
 have HD:=hid (show ∀i,L.getD i 0<10000 from fun i=>HL.out.getD (by omega) i)
 obtain ⟨B,hB⟩: ∃b,b=zneg x:=⟨_,rfl⟩
 rw [←hB] at zA hW0 ⊢
 rw [hng] at hB
 have HB:=hid hB
 clear h0 hL hN hng hB H3 HL HT
 go_enter Tryz.func131,Tryz.ntmps131
 go_upto_region 1 with fail
 rw [←hW0]
 clear hW0
 obtain ⟨j0,j1,-,-,-⟩:=id zA
 go_wp2_with fail
 go_loopw [3,4,5,6,10] (fun s3 s4 s5 s6 s10 wr=> ∃i:Nat,i≤N∧s10=.int .i64 (i:Int)∧s3=.string (bsOf (txt L i))∧wr=W0) (fun _ _ _ _ i _=>N-(intOf i).toNat)
 case atStart=>exact ⟨0,by omega,rfl,rfl,rfl⟩
 case round=>
  obtain ⟨i,hi,rfl,rfl,rfl⟩:=hrel
  by_cases hlt:i<N
  ·obtain ⟨b,off,rfl,hcell⟩:=HC.out i hlt
   obtain ⟨d,hd⟩: ∃d,d=L.getD i 0:=⟨_,rfl⟩
   have hd1:=HD.out i
   have hst:=ST.out i hlt
   rw [←hd] at hcell hd1 hst
   have DG:=hid (fun w=>digits_any 3 d (by omega) (by omega) w)
   have hdl:(decD d).length≤4:=decD_len 3 d (by omega)
   have HST:=hid hst
   have htl:=TL.out i (by omega)
   obtain ⟨D,hD⟩: ∃D,D=decD d:=⟨_,rfl⟩
   rw [←hD] at DG hdl HST
   obtain ⟨T,hT⟩: ∃T,T=txt L i:=⟨_,rfl⟩
   rw [←hT] at htl HST ⊢
   clear hd hst hD hT
   go_wp2_with (go_at_call 133;(with_reducible refine (DG.out _).mono ?_);rintro en w1 ⟨rfl,rfl⟩)
   go_loopw [6] (fun s6 wq=> ∃j:Nat,s6=.string (bsOf (List.replicate j 48++D))∧(j=0∨(decide (i+1<N)=true∧j+D.length≤4))∧wq=wr) (fun s6 _=>4-strSz s6)
   case atStart=>exact ⟨0,rfl,.inl rfl,rfl⟩
   case round=>
    obtain ⟨j,rfl,hj,rfl⟩:=hrel
    obtain ⟨X,hX⟩: ∃X,X=List.replicate j 48++D:=⟨_,rfl⟩
    have hXl:X.length=j+D.length:=by rw [hX,List.length_append,List.length_replicate]
    obtain ⟨l,hll⟩: ∃l,l=X.length:=⟨_,rfl⟩
    have hsz:(bsOf X).size=l:=by rw [bs_size,hll]
    have hl8:l≤8:=by rcases hj with hj|⟨_,hj⟩<;>omega
    have hAB:=add_bs (P:=Tryz.prog) X T (by omega)
    have hAN:=add_nil (P:=Tryz.prog) X (by omega)
    rw [←hX]
    have HX:=hid hX
    have HJ:=hid hj
    have HLL:=hid hll
    have HXL:=hid (show l=j+D.length by omega)
    clear hX hXl hll hj
    by_cases h4:l<4
    ·by_cases hk:i+1<N
     ·have hk2:(i:Int)<(N:Int)-1:=by omega
      clear hAB
      go_wp2_with fail
      go_roundw
      case rel=>exact ⟨j+1,by rw [HX.out];rfl,.inr ⟨decide_eq_true hk,by have:=HXL.out;omega⟩,by first|rfl|trivial⟩
      case measure=>rw [strSz_bs,strSz_bs,List.length_cons,←HLL.out];omega
     ·have hk2: ¬(i:Int)<(N:Int)-1:=by omega
      have HE9:=hid (show X=if decide (i+1<N)=true then padz 4 D else D by
       rw [HX.out];exact pad_end D j _ hdl HJ.out (fun h=>hk (of_decide_eq_true h.2)))
      clear hAN
      go_wp2_with fail
      go_roundw
      case rel=>exact ⟨i+1,by omega,by go_num,by rw [HST.out,HE9.out];simp only [decide_eq_true_eq],by first|rfl|trivial⟩
      case measure=>simp [intOf];omega
    ·have HE9:=hid (show X=if decide (i+1<N)=true then padz 4 D else D by
      rw [HX.out];exact pad_end D j _ hdl HJ.out (fun h=>h4 (by have:=HXL.out;omega)))
     clear hAN
     go_wp2_with fail
     go_roundw
     case rel=>exact ⟨i+1,by omega,by go_num,by rw [HST.out,HE9.out];simp only [decide_eq_true_eq],by first|rfl|trivial⟩
     case measure=>simp [intOf];omega
  ·have e:i=N:=by omega
   subst e
   by_cases hx:x=0
   ·have hi0:=HZ2.out hx
    have HF:=hid (show zTx x= [48] by rw [hTXx.out,hx,if_neg (by omega)];exact decD_small (n:=0) (by omega))
    have hT0:txt L i= []:=by rw [hi0];exact txt_zero L
    rw [hT0]
    have hTL:(bsOf ([]:List UInt8)).toList= []:=bs_toList []
    clear hT0 HE HZ HZ2 hTXx ST TL hx hi0
    go_wp2_with fail
    go_ret
    exact ⟨by rw [HF.out];rfl,yb⟩
   ·have hT0:=HE.out (by omega)
    rw [hT0]
    obtain ⟨c,r,hcr⟩: ∃c r,decD x.natAbs=c::r:=by
     cases hd:decD x.natAbs with
     |nil=>exact absurd hd (decD_ne _)
     |cons c r=>exact ⟨c,r,rfl⟩
    have htl:=TL.out i (by omega)
    rw [hT0] at htl
    obtain ⟨T,hT⟩: ∃T,T=decD x.natAbs:=⟨_,rfl⟩
    rw [←hT] at htl hcr ⊢
    have hTL:(bsOf T).toList=c::r:=by rw [bs_toList,hcr]
    have hAD:=add_dash (P:=Tryz.prog) T (by omega)
    have HF:=hid (show zTx x=if x<0 then 45::T else T by rw [hT];exact hTXx.out)
    clear hT0 HE HZ HZ2 hTXx ST TL hx hcr hT htl
    cases B
    ·have hneg: ¬x<0:=of_decide_eq_false HB.out.symm
     have HF2:=hid (show zTx x=T by rw [HF.out,if_neg hneg])
     clear HF HB hneg hAD
     go_wp2_with fail
     go_ret
     exact ⟨ret_bs HF2.out.symm,yb⟩
    ·have hneg:x<0:=of_decide_eq_true HB.out.symm
     have HF2:=hid (show zTx x=45::T by rw [HF.out,if_pos hneg])
     clear HF HB hneg
     go_wp2_with fail
     go_ret
     exact ⟨ret_bs HF2.out.symm,yb⟩
end Go.Proofs.YtehhegbkahnhgaaGreatDoor
namespace Go.Ulp
open Go.RowKit
def RetZD (t:TypeId) (w:World) (x:Int) (e:Ending) (w':World):Prop:= ∃v,e=.returned v∧ZD t w' x v∧Below w.heap.size w w'
def RetZD2 (t:TypeId) (w:World) (x y:Int) (e:Ending) (w':World):Prop:= ∃v,e=.returned v∧ZD2 t w' x y v∧Below w.heap.size w w'
theorem RetZ.zd {t:TypeId} {w:World} {x:Int} {e:Ending} {w':World} (h:RetZ t w x e w'):RetZD t w x e w':=by
 obtain ⟨ao,cap,h1,h2,h3⟩:=h;exact ⟨_,h1,⟨ao,cap,rfl,h2⟩,h3⟩
theorem RetZ2.zd {t:TypeId} {w:World} {x y:Int} {e:Ending} {w':World} (h:RetZ2 t w x y e w'):RetZD2 t w x y e w':=by
 obtain ⟨ao,cap,bo,cbp,h1,h2,h3,h4⟩:=h;exact ⟨_,h1,⟨ao,cap,bo,cbp,rfl,h2,h3⟩,h4⟩
theorem ZD2.parts {t:TypeId} {w:World} {x y:Int} {v:Value} (h:ZD2 t w x y v): ∃a b,v=.tuple #[a,b]∧ZD t w x a∧ZD t w y b:=by
 obtain ⟨ao,cap,bo,cbp,h1,h2,h3⟩:=h;exact ⟨_,_,h1,⟨ao,cap,rfl,h2⟩,⟨bo,cbp,rfl,h3⟩⟩
theorem ZD.cast {t:TypeId} {w:World} {x y:Int} {v:Value} (h:ZD t w x v) (e:x=y):ZD t w y v:=by rw [←e];exact h
theorem ZV.cast {tz ti:TypeId} {w:World} {x y:Int} {g:Nat} (h:ZV tz ti w g x) (e:x=y):ZV tz ti w g y:=by rw [←e];exact h
theorem ZV.lt {tz ti:TypeId} {w:World} {x:Int} {g:Nat} (h:ZV tz ti w g x):g<w.heap.size:=by obtain ⟨ao,cap,h1,h2⟩:=h;exact h1.lt
theorem zv_made {tz ti:TypeId} {w:World} {x:Int} {a:Option Addr} {c:Nat} (h:Nz ti w a c (zl x)) (g:Nat) (hg:g=w.heap.size):ZV tz ti (w.alloc (.cells #[.bool (zneg x),.slice a (zl x).length c] tz)) g x:=⟨a,c,ZL.made hg,h.below (below_alloc _ _)⟩
theorem zv_store1 {tz ti:TypeId} {w0 wn:World} {g:Nat} {n:Bool} {u:Value} {x:Int} {a:Option Addr} {c:Nat} (hne:tz≠ti) (hb:Below w0.heap.size w0 wn) (hg:w0.heap.size≤g) (z:ZL tz wn g n u) (h:Nz ti wn a c (zl x)):
 Below w0.heap.size w0 ((wn.setCell ⟨g,0,none⟩ (.bool (zneg x))).setCell ⟨g,1,none⟩ (.slice a (zl x).length c))∧ZV tz ti ((wn.setCell ⟨g,0,none⟩ (.bool (zneg x))).setCell ⟨g,1,none⟩ (.slice a (zl x).length c)) g x:=by
 exact ⟨(hb.setCell (p:=⟨g,0,none⟩) hg _).setCell (p:=⟨g,1,none⟩) hg _,ZV.store z h hne⟩
theorem zv_store2 {tz ti:TypeId} {w0 wn:World} {g k:Nat} {n n':Bool} {u u':Value} {x y:Int} {a b:Option Addr} {c d:Nat} (hne:tz≠ti) (hb:Below w0.heap.size w0 wn) (hg:w0.heap.size≤g) (hk:w0.heap.size≤k) (hgk:g≠k) (z:ZL tz wn g n u) (z':ZL tz wn k n' u') (h:Nz ti wn a c (zl x)) (h':Nz ti wn b d (zl y)):
 Below w0.heap.size w0 ((((wn.setCell ⟨g,0,none⟩ (.bool (zneg x))).setCell ⟨g,1,none⟩ (.slice a (zl x).length c)).setCell ⟨k,0,none⟩ (.bool (zneg y))).setCell ⟨k,1,none⟩ (.slice b (zl y).length d))∧ZV tz ti ((((wn.setCell ⟨g,0,none⟩ (.bool (zneg x))).setCell ⟨g,1,none⟩ (.slice a (zl x).length c)).setCell ⟨k,0,none⟩ (.bool (zneg y))).setCell ⟨k,1,none⟩ (.slice b (zl y).length d)) g x∧ZV tz ti ((((wn.setCell ⟨g,0,none⟩ (.bool (zneg x))).setCell ⟨g,1,none⟩ (.slice a (zl x).length c)).setCell ⟨k,0,none⟩ (.bool (zneg y))).setCell ⟨k,1,none⟩ (.slice b (zl y).length d)) k y:=by
 obtain ⟨h1,h2⟩:=zv_store1 hne hb hg z h
 have z2:=((z'.far ⟨g,0,none⟩ (.bool (zneg x)) hgk.symm).far ⟨g,1,none⟩ (.slice a (zl x).length c) hgk.symm)
 have n2:=h'.st2 z.2.2.2.2 hne (.bool (zneg x)) (.slice a (zl x).length c)
 obtain ⟨h3,h4⟩:=zv_store1 hne h1 hk z2 n2
 exact ⟨h3,h2.set2 z2.2.2.2.2 hne hgk _ _,h4⟩
theorem zv_made2 {tz ti:TypeId} {w:World} {x y:Int} {a b:Option Addr} {c d:Nat} (h:Nz ti w a c (zl x)) (h':Nz ti w b d (zl y)):
 Below w.heap.size w ((w.alloc (.cells #[.bool (zneg x),.slice a (zl x).length c] tz)).alloc (.cells #[.bool (zneg y),.slice b (zl y).length d] tz))∧ZV tz ti ((w.alloc (.cells #[.bool (zneg x),.slice a (zl x).length c] tz)).alloc (.cells #[.bool (zneg y),.slice b (zl y).length d] tz)) w.heap.size x∧ZV tz ti ((w.alloc (.cells #[.bool (zneg x),.slice a (zl x).length c] tz)).alloc (.cells #[.bool (zneg y),.slice b (zl y).length d] tz)) (w.heap.size+1) y:=
 ⟨below_trans (below_alloc _ _) (below_alloc _ _),(zv_made h _ rfl).below (below_alloc _ _),zv_made (h'.below (below_alloc _ _)) _ (by simp)⟩
theorem wp_worldZ {P:Program} {c:Code} {Q:Exit→Act→World→Prop} {a:Act} {w0:World} (F:World→Prop) (hF:F w0) (h: ∀w,F w→Code.wp P c Q a w):Code.wp P c Q a w0:=h w0 hF
end Go.Ulp
namespace Go.Proofs.YtehhegbkahnhgaaGreatDoor
open Go.RowKit Go.Ulp
set_option maxHeartbeats 1000000
set_option maxRecDepth 100000
theorem zaddD (v u:Value) (x y:Int) (w:World) (hv:ZD 3 w x v) (hu:ZD 3 w y u) (hx:(zl x).length≤4000000000) (hy:(zl y).length≤4000000000):Calls Tryz.prog 76 #[v,u] w (RetZD 3 w (x+y)):=by
 obtain ⟨a,c,rfl,h⟩:=hv;obtain ⟨b,d,rfl,k⟩:=hu
 exact (zadd_any a b c d x y w h k (by omega) (by omega)).mono fun _ _ h=>h.zd
theorem zsubD (v u:Value) (x y:Int) (w:World) (hv:ZD 3 w x v) (hu:ZD 3 w y u) (hx:(zl x).length≤4000000000) (hy:(zl y).length≤4000000000):Calls Tryz.prog 61 #[v,u] w (RetZD 3 w (x-y)):=by
 obtain ⟨a,c,rfl,h⟩:=hv;obtain ⟨b,d,rfl,k⟩:=hu
 exact (zsub_any a b c d x y w h k (by omega) (by omega)).mono fun _ _ h=>h.zd
theorem zmulD (v u:Value) (x y:Int) (w:World) (hv:ZD 3 w x v) (hu:ZD 3 w y u) (hx:(zl x).length≤1000000000) (hy:(zl y).length≤1000000000):Calls Tryz.prog 77 #[v,u] w (RetZD 3 w (x*y)):=by
 obtain ⟨a,c,rfl,h⟩:=hv;obtain ⟨b,d,rfl,k⟩:=hu
 exact (zmul_any a b c d x y w h k (by omega) (by omega)).mono fun _ _ h=>h.zd
theorem zdivD (v u:Value) (x y:Int) (w:World) (hv:ZD 3 w x v) (hu:ZD 3 w y u) (hx:(zl x).length≤4000000000) (hy:(zl y).length≤1000000000) (hy0:y≠0):Calls Tryz.prog 97 #[v,u] w (RetZD2 3 w (x/y) (x%y)):=by
 obtain ⟨a,c,rfl,h⟩:=hv;obtain ⟨b,d,rfl,k⟩:=hu
 exact (zdiv_any a b c d x y w h k hx hy hy0).mono fun _ _ h=>h.zd
theorem zcmpD (v u:Value) (x y:Int) (w:World) (hv:ZD 3 w x v) (hu:ZD 3 w y u):Calls Tryz.prog 80 #[v,u] w fun e w'=>e=.returned (.int .i64 (cmpI x y))∧Below w.heap.size w w':=by
 obtain ⟨a,c,rfl,h⟩:=hv;obtain ⟨b,d,rfl,k⟩:=hu
 exact zcmp_any a b c d x y w h k
theorem zsignD (v:Value) (x:Int) (w:World) (hv:ZD 3 w x v):Calls Tryz.prog 88 #[v] w fun e w'=>e=.returned (.int .i64 (cmpI x 0))∧Below w.heap.size w w':=by
 obtain ⟨a,c,rfl,h⟩:=hv
 exact zsign_any a c x w h
theorem zabsD (v:Value) (x:Int) (w:World) (hv:ZD 3 w x v):Calls Tryz.prog 81 #[v] w (RetZD 3 w (x.natAbs:Int)):=by
 obtain ⟨a,c,rfl,h⟩:=hv
 exact (zabs_any a c x w h).mono fun _ _ h=>h.zd
theorem zpowD (n:Nat) (w:World) (hn:n≤1000000000):Calls Tryz.prog 82 #[.int .i64 (n:Int)] w (RetZD 3 w (pw n)):=(zpow_any n w hn).mono fun _ _ h=>h.zd
theorem zND (n:Int) (h0:0≤n) (h1:n<9223372036854775808) (w:World):Calls Tryz.prog 38 #[.int .i64 n] w (RetZD 3 w n):=by
 obtain ⟨k,rfl⟩:=Int.eq_ofNat_of_zero_le h0
 exact (zN_any k (by omega) w).mono fun _ _ h=>h.zd
theorem zTextD (v:Value) (x:Int) (w:World) (hv:ZD 3 w x v) (hl:(zl x).length≤2000000000):Calls Tryz.prog 131 #[v] w fun e w'=>e=.returned (.string (bsOf (zTx x)))∧Below w.heap.size w w':=by
 obtain ⟨a,c,rfl,h⟩:=hv
 exact zText_any x a c w h hl
end Go.Proofs.YtehhegbkahnhgaaGreatDoor
namespace Go.Ulp
open Go.RowKit
theorem decD_lt (n:Nat):n<10^(decD n).length:=by
 induction n using Nat.strongRecOn with
 |_ n ih=>
  by_cases h:n<10
  ·rw [decD_small h];simpa using h
  ·have:=ih (n/10) (by omega)
   rw [decD_big h,List.length_append,List.length_singleton,Nat.pow_succ];omega
theorem decD_len_lt (n k:Nat) (h:n<10^k) (hk:0<k):(decD n).length≤k:=by
 obtain ⟨j,rfl⟩: ∃j,k=j+1:=⟨k-1,by omega⟩
 exact decD_len j n h
end Go.Ulp
