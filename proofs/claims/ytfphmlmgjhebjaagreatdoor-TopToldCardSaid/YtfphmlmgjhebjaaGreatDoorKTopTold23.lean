/- TopTold: what the proof leans on, part 23 (Su1 Su2 Su3 Tp0 Pr0 Pr1 Pr2 Su4 Pr3 Ex0 Es0 Es1 Qr0 Wh0 Qr1 Qs3 Qr2 Qs6 Qt4 Tp1 Sp1 Tp2). -/
import Derived.Test.YtfphmlmgjhebjaaGreatDoorKTopTold2
import Derived.Test.YtfphmlmgjhebjaaGreatDoorKTopTold8
import Derived.Test.YtfphmlmgjhebjaaGreatDoorKTopTold9
import Derived.Test.YtfphmlmgjhebjaaGreatDoorKTopTold10
import Derived.Test.YtfphmlmgjhebjaaGreatDoorKTopTold14
import Derived.Test.YtfphmlmgjhebjaaGreatDoorKTopTold19
import Derived.Test.YtfphmlmgjhebjaaGreatDoorKTopTold20
import Derived.Test.YtfphmlmgjhebjaaGreatDoorKTopTold22
set_option linter.unusedVariables false
set_option linter.unusedSimpArgs false
namespace Go.Ulp
open Go.RowKit
def AS (L:List Nat) (i:Nat) (inf:Int) (cl nn:Bool) (ng ps:Nat) (S:Int):Prop:=
 inf=infTo L i∧cl=clashTo L i∧nn=anyTo isNan L i∧ng=cntTo mZer L i∧ps=cntTo pZer L i∧S=sumTo L i
theorem AS.start (L:List Nat):AS L 0 0 false false 0 0 0:=⟨rfl,rfl,rfl,rfl,rfl,rfl⟩
theorem AS.nan {L:List Nat} {i:Nat} {inf:Int} {cl nn:Bool} {ng ps:Nat} {S:Int} (h:AS L i inf cl nn ng ps S) (hc:classOf (lb L i)=5):AS L (i+1) inf cl true ng ps S:=by
 obtain ⟨a,b,c,d,e,f⟩:=h
 unfold AS infTo clashTo anyTo cntTo sumTo mZer pZer isInf isNan isZer uV
 rw [hc]
 simp [←a,←b,←d,←e,←f]
 exact ⟨d,e⟩
theorem AS.inf {L:List Nat} {i:Nat} {inf:Int} {cl nn:Bool} {ng ps:Nat} {S:Int} (h:AS L i inf cl nn ng ps S) (hc:classOf (lb L i)=4):AS L (i+1) (lb L i) (cl||(decide (inf≠0)&&decide (inf≠lb L i))) nn ng ps S:=by
 obtain ⟨a,b,c,d,e,f⟩:=h
 subst a b c d e f
 unfold AS
 rw [show infTo L (i+1)=if isInf (lb L i) then lb L i else infTo L i from rfl,show clashTo L (i+1)=if isInf (lb L i) then clashTo L i||(decide (infTo L i≠0)&&decide (infTo L i≠lb L i)) else clashTo L i from rfl,
  show anyTo isNan L (i+1)=(anyTo isNan L i||isNan (lb L i)) from rfl,show cntTo mZer L (i+1)=cntTo mZer L i+(if mZer (lb L i) then 1 else 0) from rfl,show cntTo pZer L (i+1)=cntTo pZer L i+(if pZer (lb L i) then 1 else 0) from rfl,show sumTo L (i+1)=sumTo L i+uV (lb L i) from rfl]
 unfold mZer pZer isInf isNan isZer uV
 rw [hc]
 simp
theorem AS.zer {L:List Nat} {i:Nat} {inf:Int} {cl nn:Bool} {ng ps:Nat} {S:Int} (h:AS L i inf cl nn ng ps S) (hc:classOf (lb L i)=1) (hu:uV (lb L i)=0):
 AS L (i+1) inf cl nn (ng+(if negB (lb L i) then 1 else 0)) (ps+(if negB (lb L i) then 0 else 1)) S:=by
 obtain ⟨a,b,c,d,e,f⟩:=h
 subst a b c d e f
 unfold AS
 rw [show infTo L (i+1)=if isInf (lb L i) then lb L i else infTo L i from rfl,show clashTo L (i+1)=if isInf (lb L i) then clashTo L i||(decide (infTo L i≠0)&&decide (infTo L i≠lb L i)) else clashTo L i from rfl,
  show anyTo isNan L (i+1)=(anyTo isNan L i||isNan (lb L i)) from rfl,show cntTo mZer L (i+1)=cntTo mZer L i+(if mZer (lb L i) then 1 else 0) from rfl,show cntTo pZer L (i+1)=cntTo pZer L i+(if pZer (lb L i) then 1 else 0) from rfl,show sumTo L (i+1)=sumTo L i+uV (lb L i) from rfl]
 rw [hu]
 unfold mZer pZer isInf isNan isZer
 rw [hc]
 cases negB (lb L i)<;>simp
theorem AS.val {L:List Nat} {i:Nat} {inf:Int} {cl nn:Bool} {ng ps:Nat} {S:Int} (h:AS L i inf cl nn ng ps S) (h5:classOf (lb L i)≠5) (h4:classOf (lb L i)≠4) (h1:classOf (lb L i)≠1):
 AS L (i+1) inf cl nn ng ps (S+uV (lb L i)):=by
 obtain ⟨a,b,c,d,e,f⟩:=h
 subst a b c d e f
 unfold AS
 rw [show infTo L (i+1)=if isInf (lb L i) then lb L i else infTo L i from rfl,show clashTo L (i+1)=if isInf (lb L i) then clashTo L i||(decide (infTo L i≠0)&&decide (infTo L i≠lb L i)) else clashTo L i from rfl,
  show anyTo isNan L (i+1)=(anyTo isNan L i||isNan (lb L i)) from rfl,show cntTo mZer L (i+1)=cntTo mZer L i+(if mZer (lb L i) then 1 else 0) from rfl,show cntTo pZer L (i+1)=cntTo pZer L i+(if pZer (lb L i) then 1 else 0) from rfl,show sumTo L (i+1)=sumTo L i+uV (lb L i) from rfl]
 unfold mZer pZer isInf isNan isZer
 have e5:(classOf (lb L i)==5)=false:=beq_eq_false_iff_ne.2 h5
 have e4:(classOf (lb L i)==4)=false:=beq_eq_false_iff_ne.2 h4
 have e1:(classOf (lb L i)==1)=false:=beq_eq_false_iff_ne.2 h1
 rw [e5,e4,e1]
 simp
section
variable {L:List Nat} {inf:Int} {cl nn:Bool} {ng ps:Nat} {S:Int} {mode:Int}
theorem AS.sNan (hL: ∀j,lb L j<18446744073709551616) (h:AS L L.length inf cl nn ng ps S):Go.Ulp.sNan L=(nn||cl):=by
 obtain ⟨a,b,c,d,e,f⟩:=h
 unfold Go.Ulp.sNan
 rw [c,b]
 rcases inf_state L hL L.length with ⟨x,y,z,t⟩|⟨x,y,t⟩|⟨x,y,t⟩
 ·rw [t,y,z];rfl
 ·rw [t,y];simp
 ·rw [t,y];simp
theorem AS.sInf (hL: ∀j,lb L j<18446744073709551616) (h:AS L L.length inf cl nn ng ps S):Go.Ulp.sInf L=decide (inf≠0):=by
 obtain ⟨a,b,c,d,e,f⟩:=h
 unfold Go.Ulp.sInf
 rw [a]
 rcases inf_state L hL L.length with ⟨x,y,z,t⟩|⟨x,y,t⟩|⟨x,y,t⟩
 ·rw [x,y,z];rfl
 ·rw [x,y];simp
 ·rw [x,y];simp
theorem AS.infX (hL: ∀j,lb L j<18446744073709551616) (h:AS L L.length inf cl nn ng ps S) (hc:cl=false) (hi:inf≠0):inf=if anyTo mInf L L.length then 18442240474082181120 else 9218868437227405312:=by
 obtain ⟨a,b,c,d,e,f⟩:=h
 rcases inf_state L hL L.length with ⟨x,y,z,t⟩|⟨x,y,t⟩|⟨x,y,t⟩
 ·exact absurd (a.trans x) hi
 ·rw [←t,←b,hc];rw [a,x];rfl
 ·rw [y];rw [a,x];rfl
theorem AS.ansNan (hL: ∀j,lb L j<18446744073709551616) (h:AS L L.length inf cl nn ng ps S) (hb:(nn||cl)=true):sumX L mode=9221120237041090560∧sumC L mode=false:=by
 unfold sumX sumC;rw [h.sNan hL,hb];exact ⟨rfl,rfl⟩
theorem AS.ansInf (hL: ∀j,lb L j<18446744073709551616) (h:AS L L.length inf cl nn ng ps S) (hb:(nn||cl)=false) (hi:inf≠0):sumX L mode=inf∧sumC L mode=false:=by
 have hc:cl=false:=by cases cl;rfl;rw [Bool.or_true] at hb;cases hb
 unfold sumX sumC;rw [h.sNan hL,hb,h.sInf hL,decide_eq_true hi];exact ⟨(h.infX hL hc hi).symm,rfl⟩
theorem AS.ansNum (hL: ∀j,lb L j<18446744073709551616) (h:AS L L.length inf cl nn ng ps S) (hb:(nn||cl)=false) (hi:inf=0) (hS:S≠0):sumX L mode=rX (nrm S (-1074)) mode∧sumC L mode=rC (nrm S (-1074)) mode:=by
 have e:=h.2.2.2.2.2
 unfold sumX sumC sDy;rw [h.sNan hL,hb,h.sInf hL,decide_eq_false (by simpa using hi),←e,if_pos hS,if_pos hS];exact ⟨rfl,rfl⟩
theorem AS.ansPos (hL: ∀j,lb L j<18446744073709551616) (h:AS L L.length inf cl nn ng ps S) (hb:(nn||cl)=false) (hi:inf=0) (hS:S=0) (hp:ps=L.length):sumX L mode=0∧sumC L mode=false:=by
 have e:=h.2.2.2.2.2
 have e2:=h.2.2.2.2.1
 unfold sumX sumC;rw [h.sNan hL,hb,h.sInf hL,decide_eq_false (by simpa using hi),←e,if_neg (not_not_intro hS),if_neg (not_not_intro hS),←e2,if_pos hp];exact ⟨rfl,rfl⟩
theorem AS.ansNeg (hL: ∀j,lb L j<18446744073709551616) (h:AS L L.length inf cl nn ng ps S) (hb:(nn||cl)=false) (hi:inf=0) (hS:S=0) (hp:ps≠L.length) (hn:ng=L.length):sumX L mode=9223372036854775808∧sumC L mode=false:=by
 have e:=h.2.2.2.2.2
 have e2:=h.2.2.2.2.1
 have e3:=h.2.2.2.1
 unfold sumX sumC;rw [h.sNan hL,hb,h.sInf hL,decide_eq_false (by simpa using hi),←e,if_neg (not_not_intro hS),if_neg (not_not_intro hS),←e2,if_neg hp,←e3,if_pos hn];exact ⟨rfl,rfl⟩
theorem AS.ansNone (hL: ∀j,lb L j<18446744073709551616) (h:AS L L.length inf cl nn ng ps S) (hb:(nn||cl)=false) (hi:inf=0) (hS:S=0) (hp:ps≠L.length) (hn:ng≠L.length):sumX L mode=sgb (mode==2)∧sumC L mode=false:=by
 have e:=h.2.2.2.2.2
 have e2:=h.2.2.2.2.1
 have e3:=h.2.2.2.1
 unfold sumX sumC sgb;rw [h.sNan hL,hb,h.sInf hL,decide_eq_false (by simpa using hi),←e,if_neg (not_not_intro hS),if_neg (not_not_intro hS),←e2,if_neg hp,←e3,if_neg hn]
 refine ⟨?_,rfl⟩
 by_cases m:mode=2
 ·rw [if_pos m,beq_iff_eq.2 m];rfl
 ·rw [if_neg m,beq_eq_false_iff_ne.2 m];rfl
end
theorem sumD_bd (A:Nat) (hA:A=2298) (L:List Nat) (hL: ∀j,lb L j<18446744073709551616) (i:Nat) (hi:i≤200):(nrm (sumTo L i) (-1074)).1.natAbs<2^A∧ -1074≤(nrm (sumTo L i) (-1074)).2∧(nrm (sumTo L i) (-1074)).2≤4000:=by
 have h:=sumTo_bd 2098 (Nat.le_refl _) L hL i
 have h2:=Nat.lt_of_lt_of_le h (Nat.pow_le_pow_right (by omega) (show 2098+i≤A by omega))
 obtain ⟨k1,k2⟩:=nrm_bd (sumTo L i) (-1074) A h2
 exact ⟨k1,by rcases k2 with k|k<;>omega,by rcases k2 with k|k<;>omega⟩
end Go.Ulp
namespace Go.Proofs.YtfphmlmgjhebjaaGreatDoor
open Go.RowKit Go.Ulp
set_option maxHeartbeats 2000000
set_option maxRecDepth 100000
theorem zeroS_any (neg:Bool) (w:World):Calls Tryz.prog 145 #[.bool neg] w fun e w'=>e=.returned (.int .u64 (sgb neg))∧w=w':=by
 cases neg
 ·go_enter Tryz.func145,Tryz.ntmps145
  go_wp2_with fail
  go_ret
  exact ⟨rfl,rfl⟩
 ·go_enter Tryz.func145,Tryz.ntmps145
  go_wp2_with fail
  go_ret
  exact ⟨rfl,rfl⟩
theorem sumAll_any (ao:Option Addr) (cap:Nat) (L:List Nat) (mode:Int) (w:World) (h:Ns .u64 w ao cap L) (hL: ∀j,lb L j<18446744073709551616) (hlen:L.length≤200) (hT:Tab 1 w):
 Calls Tryz.prog 79 #[.slice ao L.length cap,.int .i64 mode] w (RetX w (sumX L mode) (sumC L mode)):=by
 have hNL:=h
 obtain ⟨h1,h2,h3⟩:=h
 unfold maxLen at h2
 obtain ⟨N,hN⟩: ∃N,N=L.length:=⟨_,rfl⟩
 have CL:=hid (fun j w=>class_any (lb L j) (lb_nonneg _ _) (hL j) w)
 have VA:=hid (fun j w t=>value_any (lb L j) (lb_nonneg _ _) (hL j) w t)
 have HL:=hid hL
 have HL0:=hid hL
 have FV:=hid (fun j (h:classOf (lb L j)<4)=>fv_uV (lb L j) (lb_nonneg _ _) (hL j) h)
 have UZ:=hid (fun j (h:classOf (lb L j)=1)=>uV_zer (lb L j) (lb_nonneg _ _) (hL j) h)
 have ZB:=hid (fun j (h:classOf (lb L j)=1)=>zer_bits (lb L j) (lb_nonneg _ _) (hL j) h)
 have CB:=hid (fun j=>class_bd (lb L j))
 obtain ⟨A,hA⟩: ∃A:Nat,A=2298:=⟨_,rfl⟩
 have SB:=hid (fun i hi=>sumD_bd A hA L hL i hi)
 obtain ⟨K,hK⟩: ∃K:Nat,K=100:=⟨_,rfl⟩
 have LB:=hid (fun (M:Nat) (h:M<2^A)=>(limbs_le_bits M K).2 (Nat.lt_of_lt_of_le h (Nat.pow_le_pow_right (by omega) (by omega))))
 have HT:=hid hT
 have HNL:=hid hNL
 have yb0:=below_alloc w (.cells #[.bool false,.slice none 0 0,.int .i64 0] 67)
 have zR0:DV 67 (w.alloc (.cells #[.bool false,.slice none 0 0,.int .i64 0] 67)) w.heap.size (nrm 0 (-1074)):=⟨none,0,QL.made rfl,Ns.nil⟩
 clear hL hT hA hNL
 go_enter Tryz.func79,Tryz.ntmps79
 go_wp2_with fail
 go_loopw [6,7,8,9,10,13,16] (fun s6 s7 s8 s9 s10 _ s16 wr=> ∃(i:Nat) (inf:Int) (cl nn:Bool) (ng ps:Nat) (S:Int),s16=.int .i64 (i:Int)∧i≤L.length∧s6=.int .u64 inf∧s7=.bool cl∧s8=.bool nn∧s9=.int .i64 (ng:Int)∧s10=.int .i64 (ps:Int)∧AS L i inf cl nn ng ps S∧DV 67 wr w.heap.size (nrm S (-1074))∧Below w.heap.size w wr) (fun _ _ _ _ _ _ s16 _=>(L.length-(intOf s16).toNat))
 case atStart=>exact ⟨0,0,false,false,0,0,0,rfl,by omega,rfl,rfl,rfl,rfl,rfl,AS.start L,zR0,yb0⟩
 case round=>
  obtain ⟨i,inf,cl,nn,ng,ps,S,rfl,hi,rfl,rfl,rfl,rfl,rfl,hAS,hDV,yb⟩:=hrel
  have HAS:=hid hAS
  have HDV:=hid hDV
  have c1:=cnt_le mZer L i
  have c2:=cnt_le pZer L i
  have n1:ng≤i:=by rw [hAS.2.2.2.1];exact c1
  have n2:ps≤i:=by rw [hAS.2.2.2.2.1];exact c2
  have HS:=hid hAS.2.2.2.2.2
  clear hAS hDV c1 c2 h3 hN zR0 yb0
  by_cases hi2:(i:Int)<(L.length:Int)
  ·obtain ⟨b0,o0,rfl,hc0⟩:=HNL.out.2.2 (by omega)
   have k0:=(yb.cell (p:=⟨b0,o0+i,none⟩) (World.block_lt_of_cell? _ _ (hc0 i (by omega)))).trans (hc0 i (by omega))
   have C0:=hid (CL.out i)
   have V0:=hid (VA.out i)
   have FV0:=hid (FV.out i)
   have UZ0:=hid (UZ.out i)
   have ZB0:=hid (ZB.out i)
   have cb:=CB.out i
   have hx0:0≤lb L i:=lb_nonneg L i
   have SB0:=hid (SB.out i (by omega))
   obtain ⟨x,hx⟩: ∃x,x=lb L i:=⟨_,rfl⟩
   have HX:=hid hx
   rw [←hx] at k0 C0 V0 FV0 UZ0 ZB0 cb hx0
   clear hx hc0 CL VA FV UZ ZB CB SB HL
   by_cases h5:classOf x=5
   ·have H5:=hid h5
    rw [h5] at C0
    clear h5 cb
    go_wp2_with (go_at_call 33;(with_reducible refine (C0.out _).mono ?_);rintro en w1 ⟨rfl,rfl⟩)
    go_roundw
    case rel=>exact ⟨i+1,inf,cl,true,ng,ps,S,by go_num,by omega,rfl,rfl,rfl,rfl,rfl,HAS.out.nan (by rw [←HX.out];exact H5.out),HDV.out,yb⟩
    case measure=>simp [intOf];omega
   by_cases h4:classOf x=4
   ·have H4:=hid h4
    have HCL:=hid (HAS.out.inf (by rw [←HX.out];exact h4))
    rw [h4] at C0
    clear h4 h5 cb
    cases cl
    ·by_cases hz:inf=0
     ·have hz2:(inf !=0)=false:=by rw [hz];rfl
      have HZ:=hid hz
      clear hz
      go_wp2_with (go_at_call 33;(with_reducible refine (C0.out _).mono ?_);rintro en w1 ⟨rfl,rfl⟩)
      go_roundw
      case rel=>exact ⟨i+1,x,false,nn,ng,ps,S,by go_num,by omega,rfl,rfl,rfl,rfl,rfl,by
       have h:=HCL.out
       rw [←HX.out,HZ.out] at h
       simpa using h,HDV.out,yb⟩
      case measure=>simp [intOf];omega
     ·have hz2:(inf !=0)=true:=bne_iff_ne.2 hz
      have HZ:=hid hz
      clear hz
      by_cases hq:inf=x
      ·have hq2:(inf !=x)=false:=by rw [hq];simp
       have HQ:=hid hq
       clear hq
       go_wp2_with (go_at_call 33;(with_reducible refine (C0.out _).mono ?_);rintro en w1 ⟨rfl,rfl⟩)
       go_roundw
       case rel=>exact ⟨i+1,x,false,nn,ng,ps,S,by go_num,by omega,rfl,rfl,rfl,rfl,rfl,by
        have h:=HCL.out
        rw [←HX.out,decide_eq_false (not_not_intro HQ.out),Bool.and_false,Bool.or_false] at h
        exact h,HDV.out,yb⟩
       case measure=>simp [intOf];omega
      ·have hq2:(inf !=x)=true:=bne_iff_ne.2 hq
       have HQ:=hid hq
       clear hq
       go_wp2_with (go_at_call 33;(with_reducible refine (C0.out _).mono ?_);rintro en w1 ⟨rfl,rfl⟩)
       go_roundw
       case rel=>exact ⟨i+1,x,true,nn,ng,ps,S,by go_num,by omega,rfl,rfl,rfl,rfl,rfl,by
        have h:=HCL.out
        rw [←HX.out,decide_eq_true HQ.out,decide_eq_true HZ.out] at h
        exact h,HDV.out,yb⟩
       case measure=>simp [intOf];omega
    ·go_wp2_with (go_at_call 33;(with_reducible refine (C0.out _).mono ?_);rintro en w1 ⟨rfl,rfl⟩)
     go_roundw
     case rel=>exact ⟨i+1,x,true,nn,ng,ps,S,by go_num,by omega,rfl,rfl,rfl,rfl,rfl,by
      have h:=HCL.out
      rw [←HX.out,Bool.true_or] at h
      exact h,HDV.out,yb⟩
     case measure=>simp [intOf];omega
   by_cases h1:classOf x=1
   ·have HZ:=hid (HAS.out.zer (by rw [←HX.out];exact h1) (by rw [←HX.out];exact UZ0.out h1))
    have hzb:=ZB0.out h1
    rw [h1] at C0
    rw [←HX.out] at HZ
    clear h1 h4 h5 cb
    cases hn:negB x
    ·have HN:=hid hn
     rw [hn,if_neg (by simp)] at hzb
     clear hn
     subst hzb
     go_wp2_with (go_at_call 33;(with_reducible refine (C0.out _).mono ?_);rintro en w1 ⟨rfl,rfl⟩)
     go_roundw
     case rel=>exact ⟨i+1,inf,cl,nn,ng,ps+1,S,by go_num,by omega,rfl,rfl,rfl,rfl,by go_num,by
      have h:=HZ.out
      rw [HN.out] at h
      exact h,HDV.out,yb⟩
     case measure=>simp [intOf];omega
    ·have HN:=hid hn
     rw [hn,if_pos rfl] at hzb
     clear hn
     subst hzb
     go_wp2_with (go_at_call 33;(with_reducible refine (C0.out _).mono ?_);rintro en w1 ⟨rfl,rfl⟩)
     go_roundw
     case rel=>exact ⟨i+1,inf,cl,nn,ng+1,ps,S,by go_num,by omega,rfl,rfl,rfl,by go_num,rfl,by
      have h:=HZ.out
      rw [HN.out] at h
      exact h,HDV.out,yb⟩
     case measure=>simp [intOf];omega
   ·have HV:=hid (HAS.out.val (by rw [←HX.out];exact h5) (by rw [←HX.out];exact h4) (by rw [←HX.out];exact h1))
    have hlt:classOf x<4:=by omega
    have hfv:=FV0.out hlt
    rw [←HX.out] at HV
    obtain ⟨c,hc⟩: ∃c,c=classOf x:=⟨_,rfl⟩
    rw [←hc] at C0 h5 h4 h1
    have e5:(c==5)=false:=beq_eq_false_iff_ne.2 h5
    have e4:(c==4)=false:=beq_eq_false_iff_ne.2 h4
    have e1:(c==1)=false:=beq_eq_false_iff_ne.2 h1
    have hbd:=SB0.out
    rw [←HS.out] at hbd
    have hfb:=fv_bd x hx0 (by rw [HX.out];exact HL0.out i)
    have l1:=LB.out _ hbd.1
    have l2:(limbs (fv x).1.natAbs).length≤2:=(limbs_le_bits _ 2).2 (Nat.lt_of_lt_of_le hfb.2.1 (Nat.pow_le_pow_right (by omega) (by omega)))
    have PL:=hid (fun v u w h0 h1 t=>plusD_any v u (nrm S (-1074)) (fv x) w h0 h1 (by omega) (by omega) ⟨by omega,by omega⟩ ⟨by omega,by omega⟩ t)
    have HSD:=hid (show addD (nrm S (-1074)) (fv x)=nrm (S+uV x) (-1074) by rw [hfv,addD_step])
    rw [HSD.out] at PL
    obtain ⟨am,cm,zD,hND⟩:=HDV.out
    have HVD:=hid (fun w' (hb:Below wr.heap.size wr w')=>(show VD w' (nrm S (-1074)) (.agg #[.bool (decide ((nrm S (-1074)).1<0)),.slice am (limbs (nrm S (-1074)).1.natAbs).length cm,.int .i64 (nrm S (-1074)).2]) from ⟨am,cm,rfl,hND.below hb⟩))
    generalize nrm S (-1074)=D at *
    clear hc h5 h4 h1 hlt hfv hbd hfb l1 l2 cb HDV hND FV0 UZ0 ZB0 LB SB0
    go_upto_region 8 with (go_at_call 33;(with_reducible refine (C0.out _).mono ?_);rintro en w1 ⟨rfl,rfl⟩)
    refine wp_region_grow 4 [22,23,24,25] [Fact.is (.agg #[.bool (decide (D.1<0)),.slice am (limbs D.1.natAbs).length cm,.int .i64 D.2]),Fact.is (.int .u64 x),Fact.vd (fv x),Fact.vd (nrm (S+uV x) (-1074))] (by kernel_rfl) (by kernel_rfl) ⟨?o0,?o1,?o2,?o3,trivial⟩ ?after
    case o0=>(refine oQ rfl ?_;intro ρ w1 R hcon hfn hρ hb hp hR;have e11:ρ (.tmp 11)=.pointer (some ⟨w.heap.size,0,none⟩):=hρ.tmp 11 rfl;obtain ⟨⟨j0,j1,-,-,-⟩,j2,-⟩:=zD.below hb;clear hρ hp;unfold OpRun;go_simp;exact hR _ _ (Below.refl _ _) rfl)
    case o1=>(refine oQ rfl ?_;intro ρ w1 R hcon hfn hρ hb hp hR;have e13:ρ (.tmp 13)=.int .u64 x:=hρ.tmp 13 rfl;clear hρ hp;unfold OpRun;go_simp;exact hR _ _ (Below.refl _ _) rfl)
    case o2=>(refine oQ rfl ?_;intro ρ w1 R hcon hfn hρ hb hp hR;have e23:ρ (.tmp 23)=_:=hp 1 23 rfl rfl;clear hρ hp;unfold OpRun;go_simp;(refine (V0.out _ (HT.out.below (below_trans yb hb))).mono ?_;rintro e wn ⟨v9,rfl,hv9,hbn⟩;exact ⟨_,rfl,hR _ _ hbn hv9⟩))
    case o3=>(refine oQ rfl ?_;intro ρ w1 R hcon hfn hρ hb hp hR;have e22:ρ (.tmp 22)=_:=hp 0 22 rfl rfl;have f24:=hp 2 24 rfl rfl;clear hρ hp;unfold OpRun;go_simp;(refine (PL.out _ _ _ (HVD.out _ hb) f24 (HT.out.below (below_trans yb hb))).mono ?_;rintro e wn ⟨v9,rfl,hv9,hbn⟩;exact ⟨_,rfl,hR _ _ hbn hv9⟩))
    case after=>
     intro u wn hb hf
     have f25:=hf 3 25 (by omega) rfl
     clear hf
     simp only [putAll,Act.put,List.setIfInBounds_toArray,List.set_cons_zero,List.set_cons_succ,List.drop_succ_cons,List.drop_zero,List.drop_nil]
     obtain ⟨am2,cm2,e25,hN2⟩:=f25
     rw [e25]
     have zD2:=zD.below hb
     have yb2:=below_trans yb hb
     obtain ⟨⟨j0,j1,g0,g1,hs2⟩,j2,g2⟩:=id zD2
     clear e25
     go_wp2_with fail
     go_roundw
     case rel=>exact ⟨i+1,inf,cl,nn,ng,ps,S+uV x,by go_num,by omega,rfl,rfl,rfl,rfl,rfl,HV.out,DV.put zD2 hN2 (by intro x h;cases h),Go.Ulp.Below.put3 yb2 (Nat.le_refl _) _ _ _⟩
     case measure=>simp [intOf];omega
  ·have hie:i=L.length:=by omega
   subst hie
   have HA1:=hid (fun hb=>HAS.out.ansNan (mode:=mode) HL.out hb)
   have HA2:=hid (fun hb hi=>HAS.out.ansInf (mode:=mode) HL.out hb hi)
   have HA3:=hid (fun hb hi hS=>HAS.out.ansNum (mode:=mode) HL.out hb hi hS)
   have HA4:=hid (fun hb hi hS hp=>HAS.out.ansPos (mode:=mode) HL.out hb hi hS hp)
   have HA5:=hid (fun hb hi hS hp hn=>HAS.out.ansNeg (mode:=mode) HL.out hb hi hS hp hn)
   have HA6:=hid (fun hb hi hS hp hn=>HAS.out.ansNone (mode:=mode) HL.out hb hi hS hp hn)
   have SB0:=hid (SB.out L.length hlen)
   clear HAS CL VA FV UZ ZB CB SB HL HNL
   cases nn
   ·cases cl
    ·by_cases hz:inf=0
     ·subst hz
      by_cases hS:S=0
      ·subst hS
       have hD:=HDV.out
       rw [nrm_zero] at hD
       obtain ⟨am,cm,zD⟩:=hD.none_form
       obtain ⟨⟨j0,j1,-,-,-⟩,j2,-⟩:=id zD
       clear hD
       by_cases hp:ps=L.length
       ·have HP:=hid (HA4.out rfl rfl rfl hp)
        subst hp
        clear HA1 HA2 HA3 HA4 HA5 HA6
        go_wp2_with fail
        go_ret2
        exact ⟨ret2 HP.out.1.symm HP.out.2.symm,yb⟩
       ·have hp2:((ps:Int)==(L.length:Int))=false:=beq_eq_false_iff_ne.2 (by omega)
        by_cases hq:ng=L.length
        ·have HP:=hid (HA5.out rfl rfl rfl hp hq)
         subst hq
         clear HA1 HA2 HA3 HA4 HA5 HA6 hp
         go_wp2_with fail
         go_ret2
         exact ⟨ret2 HP.out.1.symm HP.out.2.symm,yb⟩
        ·have hq2:((ng:Int)==(L.length:Int))=false:=beq_eq_false_iff_ne.2 (by omega)
         have HP:=hid (HA6.out rfl rfl rfl hp hq)
         clear HA1 HA2 HA3 HA4 HA5 HA6 hp hq
         go_wp2_with (go_at_call 145;(with_reducible refine (zeroS_any _ _).mono ?_);rintro en w1 ⟨rfl,rfl⟩)
         go_ret2
         exact ⟨ret2 HP.out.1.symm HP.out.2.symm,yb⟩
      ·have HP:=hid (HA3.out rfl rfl hS)
       have hbd:=SB0.out
       rw [←HS.out] at hbd
       have l1:=LB.out _ hbd.1
       have NU:=hid (fun v w h=>numberD_any v (nrm S (-1074)) mode w h (by omega) ⟨by omega,by omega⟩ (nrm_isN _ _))
       have hpos:0<(limbs (nrm S (-1074)).1.natAbs).length:=by
        have h9:=dy_len (nrm S (-1074))
        rw [nrm_zero_iff] at h9
        omega
       obtain ⟨am,cm,zD,hND⟩:=HDV.out
       have HVD:=hid (show VD wr (nrm S (-1074)) (.agg #[.bool (decide ((nrm S (-1074)).1<0)),.slice am (limbs (nrm S (-1074)).1.natAbs).length cm,.int .i64 (nrm S (-1074)).2]) from ⟨am,cm,rfl,hND⟩)
       obtain ⟨⟨j0,j1,-,-,-⟩,j2,-⟩:=id zD
       generalize nrm S (-1074)=D at *
       generalize (limbs D.1.natAbs).length=ll at *
       clear HA1 HA2 HA3 HA4 HA5 HA6 hbd l1 hS HDV hND LB SB0
       go_wp2_with (go_at_call 86;(with_reducible refine (NU.out _ _ HVD.out).mono ?_);rintro en w1 ⟨rfl,hb1⟩)
       go_ret2
       exact ⟨ret2 HP.out.1.symm HP.out.2.symm,below_trans yb hb1⟩
     ·have hz2:(inf !=0)=true:=bne_iff_ne.2 hz
      have HP:=hid (HA2.out rfl hz)
      clear HA1 HA2 HA3 HA4 HA5 HA6 hz
      go_wp2_with fail
      go_ret2
      exact ⟨ret2 HP.out.1.symm HP.out.2.symm,yb⟩
    ·have HP:=hid (HA1.out rfl)
     clear HA1 HA2 HA3 HA4 HA5 HA6
     go_wp2_with fail
     go_ret2
     exact ⟨ret2 HP.out.1.symm HP.out.2.symm,yb⟩
   ·have HP:=hid (HA1.out rfl)
    clear HA1 HA2 HA3 HA4 HA5 HA6
    go_wp2_with fail
    go_ret2
    exact ⟨ret2 HP.out.1.symm HP.out.2.symm,yb⟩
end Go.Proofs.YtfphmlmgjhebjaaGreatDoor
namespace Go.Ulp
open Go.RowKit
def QV (t e:TypeId) (w:World) (g:Nat) (D:Dy) (A T:Nat):Prop:=
 ∃(x:Int) (n:Nat) (ao:Option Addr) (cap:Nat),QL t w g (zneg x) (.slice ao (zl x).length cap) (n:Int)∧Nz e w ao cap (zl x)∧nrm x (-(n:Int))=D∧x.natAbs<2^A∧n≤T
theorem QV.below {t e:TypeId} {w w':World} {g:Nat} {D:Dy} {A T:Nat} (h:QV t e w g D A T) (hb:Below w.heap.size w w'):QV t e w' g D A T:=by
 obtain ⟨x,n,ao,cap,h1,h2,h3⟩:=h
 exact ⟨x,n,ao,cap,h1.below hb,h2.below hb,h3⟩
theorem QV.zero {t e:TypeId} {w:World} (A T:Nat):QV t e (w.alloc (.cells #[.bool false,.slice none 0 0,.int .i64 0] t)) w.heap.size (0,0) A T:=
 ⟨0,0,none,0,QL.made rfl,Nz.nil' none 0 (by unfold maxLen;omega),nrm_zero _,Nat.two_pow_pos A,Nat.zero_le _⟩
def BS (L:List Nat) (i:Nat) (pl mi nn:Bool) (zs sg:Nat) (S:Int):Prop:=
 pl=anyTo pInf L i∧mi=anyTo mInf L i∧nn=anyTo isNan L i∧zs=cntTo isZer L i∧sg=cntTo mZer L i∧S=sumTo L i
theorem BS.start (L:List Nat):BS L 0 false false false 0 0 0:=⟨rfl,rfl,rfl,rfl,rfl,rfl⟩
theorem BS.step {L:List Nat} {i:Nat} {pl mi nn:Bool} {zs sg:Nat} {S:Int} (h:BS L i pl mi nn zs sg S):
 BS L (i+1) (pl||pInf (lb L i)) (mi||mInf (lb L i)) (nn||isNan (lb L i)) (zs+(if isZer (lb L i) then 1 else 0)) (sg+(if mZer (lb L i) then 1 else 0)) (S+uV (lb L i)):=by
 obtain ⟨a,b,c,d,e,f⟩:=h
 subst a b c d e f
 exact ⟨rfl,rfl,rfl,rfl,rfl,rfl⟩
section
variable {L:List Nat} {pl mi nn:Bool} {zs sg:Nat} {S:Int} {mode:Int}
theorem BS.ansNan (h:BS L L.length pl mi nn zs sg S) (hb:(nn||(pl&&mi))=true):sumX L mode=9221120237041090560∧sumC L mode=false:=by
 obtain ⟨a,b,c,d,e,f⟩:=h
 have k:sNan L=true:=by unfold sNan;rw [←a,←b,←c];exact hb
 unfold sumX sumC;rw [k];exact ⟨rfl,rfl⟩
theorem BS.ansInf (h:BS L L.length pl mi nn zs sg S) (hb:(nn||(pl&&mi))=false) (hi:(pl||mi)=true):sumX L mode=9218868437227405312+sgb mi∧sumC L mode=false:=by
 obtain ⟨a,b,c,d,e,f⟩:=h
 have k:sNan L=false:=by unfold sNan;rw [←a,←b,←c];exact hb
 have k2:sInf L=true:=by unfold sInf;rw [←a,←b];exact hi
 unfold sumX sumC;rw [k,k2,←b]
 refine ⟨?_,rfl⟩
 cases mi<;>rfl
theorem BS.none (h:BS L L.length pl mi nn zs sg S) (hb:(nn||(pl&&mi))=false) (hi:(pl||mi)=false):sNan L=false∧sInf L=false:=by
 obtain ⟨a,b,c,d,e,f⟩:=h
 exact ⟨by unfold sNan;rw [←a,←b,←c];exact hb,by unfold sInf;rw [←a,←b];exact hi⟩
theorem BS.ansNum (h:BS L L.length pl mi nn zs sg S) (hb:(nn||(pl&&mi))=false) (hi:(pl||mi)=false) (hS:S≠0):sumX L mode=rX (nrm S (-1074)) mode∧sumC L mode=rC (nrm S (-1074)) mode:=by
 obtain ⟨k,k2⟩:=h.none hb hi
 have e:=h.2.2.2.2.2
 unfold sumX sumC sDy;rw [k,k2,←e,if_pos hS,if_pos hS];exact ⟨rfl,rfl⟩
end
end Go.Ulp
namespace Go.Proofs.YtfphmlmgjhebjaaGreatDoor
open Go.RowKit Go.Ulp
set_option maxHeartbeats 2000000
set_option maxRecDepth 100000
end Go.Proofs.YtfphmlmgjhebjaaGreatDoor
namespace Go.Ulp
open Go.RowKit
def mdX (mode x:Int):Int:=if knownB mode=true then x else 0
def mdC (mode:Int) (c:Bool):Bool:=if knownB mode=true then c else false
def mdE (mode:Int):Int:=if knownB mode=true then 0 else 1
theorem md_yes {mode:Int} (h:knownB mode=true) (x:Int) (c:Bool):mdX mode x=x∧mdC mode c=c∧mdE mode=0:=by
 unfold mdX mdC mdE;rw [if_pos h,if_pos h,if_pos h];exact ⟨rfl,rfl,rfl⟩
theorem md_no {mode:Int} (h:knownB mode=false) (x:Int) (c:Bool):mdX mode x=0∧mdC mode c=false∧mdE mode=1:=by
 unfold mdX mdC mdE;rw [h];exact ⟨rfl,rfl,rfl⟩
theorem ns2 (w:World) (t:TypeId) (a b:Nat):Ns .u64 (w.alloc (.cells #[.int .u64 (a:Int),.int .u64 (b:Int)] t)) (some ⟨w.heap.size,0,none⟩) 2 [a,b]:=by
 refine ⟨by simp,by unfold maxLen;omega,fun _=>⟨w.heap.size,0,rfl,fun i hi=>?_⟩⟩
 have hi6:i<2:=by simpa using hi
 obtain rfl|rfl:i=0∨i=1:=by omega
 all_goals (rw [World.cell?_alloc_at (hn:=rfl)];rfl)
theorem two_lt (a b:Nat) (ha:a<18446744073709551616) (hb:b<18446744073709551616): ∀j,lb [a,b] j<18446744073709551616:=by
 intro j
 by_cases hj:j<2
 ·obtain rfl|rfl:j=0∨j=1:=by omega
  ·show (a:Int)<_;omega
  ·show (b:Int)<_;omega
 ·unfold lb;rw [getD_out _ _ (by simp;omega)];omega
def CV (w:World) (g:Nat) (v:Value):Prop:=w.cell? ⟨g,0,none⟩=some v∧w.frozen? ⟨g,0,none⟩=false
theorem CV.below {w w':World} {g:Nat} {v:Value} (h:CV w g v) (hb:Below w.heap.size w w'):CV w' g v:=
 ⟨(hb.cell (World.block_lt_of_cell? _ _ h.1)).trans h.1,(hb.frozen (World.block_lt_of_cell? _ _ h.1)).trans h.2⟩
theorem CV.made {w:World} {v:Value} {t:TypeId}:CV (w.alloc (.cells #[v] t)) w.heap.size v:=by
 constructor
 ·rw [World.cell?_alloc_at (hn:=rfl)];rfl
 ·simp
end Go.Ulp
namespace Go.Proofs.YtfphmlmgjhebjaaGreatDoor
open Go.RowKit Go.Ulp
set_option maxHeartbeats 2000000
set_option maxRecDepth 100000
theorem sumAdd_any (a b:Nat) (ha:a<18446744073709551616) (hb:b<18446744073709551616) (mode:Int) (w:World) (hT:Tab 1 w):
 Calls Tryz.prog 39 #[.int .u64 (a:Int),.int .u64 (b:Int),.int .i64 mode] w (RetX3 w (mdX mode (sumX [a,b] mode)) (mdC mode (sumC [a,b] mode)) (mdE mode)):=by
 have KN:=hid (fun w=>known_any mode w)
 have AL:=hid (fun g w h t=>sumAll_any (some ⟨g,0,none⟩) 2 [a,b] mode w h (two_lt a b ha hb) (by simp) t)
 have N2:=hid (fun t=>ns2 w t a b)
 have HT:=hid hT
 have hl: [a,b].length=2:=rfl
 rw [hl] at AL
 cases hk:knownB mode
 ·obtain ⟨e1,e2,e3⟩:=md_no hk (sumX [a,b] mode) (sumC [a,b] mode)
  rw [e1,e2,e3]
  rw [hk] at KN
  clear e1 e2 e3 hk hT hl
  go_enter Tryz.func39,Tryz.ntmps39
  go_wp2_with (go_at_call 78;(with_reducible refine (KN.out _).mono ?_);rintro en w1 ⟨rfl,rfl⟩)
  refine bodyPost_ret (by simp [results,Tryz.results39,go_sem];try rfl) rfl ?_
  exact ⟨rfl,Below.refl _ _⟩
 ·obtain ⟨e1,e2,e3⟩:=md_yes hk (sumX [a,b] mode) (sumC [a,b] mode)
  rw [e1,e2,e3]
  rw [hk] at KN
  generalize sumX [a,b] mode=sx at *
  generalize sumC [a,b] mode=sc at *
  clear e1 e2 e3 hk hT hl
  go_enter Tryz.func39,Tryz.ntmps39
  go_wp2_with (first
   |(go_at_call 78;(with_reducible refine (KN.out _).mono ?_);rintro en w1 ⟨rfl,rfl⟩)
   |(go_at_call 79;(with_reducible refine (AL.out _ _ (N2.out _) (HT.out.below (below_alloc _ _))).mono ?_);rintro en w2 ⟨rfl,hb2⟩))
  refine bodyPost_ret (by simp [results,Tryz.results39,go_sem];try rfl) rfl ?_
  exact ⟨rfl,below_trans (below_alloc _ _) hb2⟩
theorem lv_a (w:World) (hT:Tab 1 w):
 Calls Tryz.prog 34 #[.string ⟨#[48,46,49]⟩,.int .i64 0] w (RetNm w 4591870180066957722 true 0):=by
 have h:=number_val [48,46,49] 0 w ⟨by omega,by omega⟩ (by decide) (by decide) (by decide) (by decide) (by decide+kernel) (by decide+kernel) hT
 refine h.mono ?_
 rintro e w' ⟨M,x,ok,hr⟩
 obtain ⟨hM,sft,hs,SC⟩:=ok
 rw [show rdNum (dvl (rdD [48,46,49])) (rdD [48,46,49]).length (rdK [48,46,49])=1 by decide+kernel,show rdDen (rdD [48,46,49]).length (rdK [48,46,49])=10 by decide+kernel] at SC
 rw [show rdN [48,46,49]=false by decide+kernel] at hr
 obtain ⟨r1,r2⟩:=read_sg false M x 0 1074 1 10 sft 4591870180066957721 (by omega) (by omega) hM hs SC (by omega) (by decide+kernel) (.inr (by decide+kernel))
 rw [show rdA 1074 1 10 (if false=true then swM 0 else 0) ((4591870180066957721:Nat):Int)=(4591870180066957722,true) by decide+kernel] at r1 r2
 rw [r1,r2] at hr
 exact hr
theorem lv_b (w:World) (hT:Tab 1 w):
 Calls Tryz.prog 34 #[.string ⟨#[48,46,50]⟩,.int .i64 0] w (RetNm w 4596373779694328218 true 0):=by
 have h:=number_val [48,46,50] 0 w ⟨by omega,by omega⟩ (by decide) (by decide) (by decide) (by decide) (by decide+kernel) (by decide+kernel) hT
 refine h.mono ?_
 rintro e w' ⟨M,x,ok,hr⟩
 obtain ⟨hM,sft,hs,SC⟩:=ok
 rw [show rdNum (dvl (rdD [48,46,50])) (rdD [48,46,50]).length (rdK [48,46,50])=2 by decide+kernel,show rdDen (rdD [48,46,50]).length (rdK [48,46,50])=10 by decide+kernel] at SC
 rw [show rdN [48,46,50]=false by decide+kernel] at hr
 obtain ⟨r1,r2⟩:=read_sg false M x 0 1074 2 10 sft 4596373779694328217 (by omega) (by omega) hM hs SC (by omega) (by decide+kernel) (.inr (by decide+kernel))
 rw [show rdA 1074 2 10 (if false=true then swM 0 else 0) ((4596373779694328217:Nat):Int)=(4596373779694328218,true) by decide+kernel] at r1 r2
 rw [r1,r2] at hr
 exact hr
theorem lv_s (w:World) (hT:Tab 1 w):
 Calls Tryz.prog 39 #[.int .u64 4591870180066957722,.int .u64 4596373779694328218,.int .i64 0] w (RetX3 w 4599075939470750516 true 0):=by
 have h:=sumAdd_any 4591870180066957722 4596373779694328218 (by omega) (by omega) 0 w hT
 rw [show mdX 0 (sumX [4591870180066957722,4596373779694328218] 0)=4599075939470750516 by decide+kernel,show mdC 0 (sumC [4591870180066957722,4596373779694328218] 0)=true by decide+kernel,show mdE 0=0 by decide+kernel] at h
 exact h
theorem lv_h (w:World) (hT:Tab 1 w) (hT10:Tab10 w):
 Calls Tryz.prog 37 #[.int .u64 4599075939470750516] w fun e w'=>e=.returned (.string ⟨#[48,120,49,46,51,51,51,51,51,51,51,51,51,51,51,51,52,112,45,50]⟩)∧Below w.heap.size w w':=by
 have h:=hexText_any 4599075939470750516 (by omega) (by omega) w hT hT10
 rw [show hexTx 4599075939470750516= [48,120,49,46,51,51,51,51,51,51,51,51,51,51,51,51,52,112,45,50] by decide+kernel] at h
 exact h
theorem lv_d (w:World) (hT:Tab 1 w) (hT10:Tab10 w):
 Calls Tryz.prog 90 #[.int .u64 4599075939470750516] w fun e w'=>e=.returned (.tuple #[.string (bsOf [51,48,48,48,48,48,48,48,48,48,48,48,48,48,48,48,52]),.int .i64 (-17),.int .i64 0])∧Below w.heap.size w w':=by
 refine (shDigits_any 4599075939470750516 (by omega) (by omega) (by decide+kernel) (by decide+kernel) 1021 900719925474100 (by decide+kernel) (by decide+kernel) (by omega) (by omega) (-1) (by unfold IsDec;decide+kernel) (by omega) w hT hT10).mono ?_
 rintro e w' ⟨k,h1,h2,rfl,hb⟩
 have g: ∀j,j<16→shS (rkD ((1021*4503599627370496+900719925474100:Nat):Int)) 1021 900719925474100 j (-1)=false:=by decide+kernel
 have g2:shS (rkD ((1021*4503599627370496+900719925474100:Nat):Int)) 1021 900719925474100 16 (-1)=true:=by decide+kernel
 have hk:k=16:=by
  rcases Nat.lt_trichotomy k 16 with h|h|h
  ·have:=g k h;rw [h2] at this;cases this
  ·exact h
  ·have:=h1 16 h;rw [g2] at this;cases this
 subst hk
 refine ⟨?_,hb⟩
 rw [show stp (decD (shZ (rkD ((1021*4503599627370496+900719925474100:Nat):Int)) 1021 900719925474100 16 (-1)))= [51,48,48,48,48,48,48,48,48,48,48,48,48,48,48,48,52] by decide+kernel,show shX (rkD ((1021*4503599627370496+900719925474100:Nat):Int)) 1021 900719925474100 16 (-1)= -17 by decide+kernel]
theorem lv_t (w:World) (hT:Tab 1 w) (hT10:Tab10 w):
 Calls Tryz.prog 35 #[.int .u64 4599075939470750516] w fun e w'=>e=.returned (.string ⟨#[48,46,51,48,48,48,48,48,48,48,48,48,48,48,48,48,48,48,52]⟩)∧Below w.heap.size w w':=by
 have h:=shText_val 4599075939470750516 (by omega) (by omega) (by decide+kernel) (by decide+kernel) (by decide+kernel) [51,48,48,48,48,48,48,48,48,48,48,48,48,48,48,48,52] (-17) ⟨by decide,by decide⟩ ⟨by omega,by omega⟩ (fun w t t10=>lv_d w t t10) w hT hT10
 rw [show dsh (negB 4599075939470750516) (shT [51,48,48,48,48,48,48,48,48,48,48,48,48,48,48,48,52] (-17))= [48,46,51,48,48,48,48,48,48,48,48,48,48,48,48,48,48,48,52] by decide+kernel] at h
 exact h
end Go.Proofs.YtfphmlmgjhebjaaGreatDoor
namespace Go.Ulp
open Go.RowKit
def infX (s:Bool):Int:=if s then 18442240474082181120 else 9218868437227405312
end Go.Ulp
namespace Go.Proofs.YtfphmlmgjhebjaaGreatDoor
open Go.RowKit Go.Ulp
set_option maxHeartbeats 2000000
set_option maxRecDepth 100000
end Go.Proofs.YtfphmlmgjhebjaaGreatDoor
namespace Go.Ulp
open Go.RowKit
theorem VD.mk {w:World} {D:Dy} {am:Option Addr} {cm:Nat} (h:Ns .u32 w am cm (limbs D.1.natAbs)):VD w D (.agg #[.bool (decide (D.1<0)),.slice am (limbs D.1.natAbs).length cm,.int .i64 D.2]):=⟨am,cm,rfl,h⟩
end Go.Ulp
namespace Go.Proofs.YtfphmlmgjhebjaaGreatDoor
open Go.RowKit Go.Ulp
set_option maxHeartbeats 2000000
set_option maxRecDepth 100000
end Go.Proofs.YtfphmlmgjhebjaaGreatDoor
namespace Go.Ulp
open Go.RowKit
def Fact.cv (B:Nat) (v:Value):Fact:=⟨fun p w=> ∃g,p=.pointer (some ⟨g,0,none⟩)∧B≤g∧CV w g v,fun _ _ _ h hb=>by
 obtain ⟨g,h1,h2,h3⟩:=h;exact ⟨g,h1,h2,h3.below hb⟩⟩
theorem CV.put {w:World} {g:Nat} {v u:Value} (h:CV w g v):CV (w.setCell ⟨g,0,none⟩ u) g u:=
 ⟨World.cell?_setCell_same _ _ _ h.1,by rw [frozen_setCell];exact h.2⟩
theorem CV.far {w:World} {g b:Nat} {v u:Value} (h:CV w g v) (hne:g≠b):CV (w.setCell ⟨b,0,none⟩ u) g v:=
 ⟨by rw [World.cell?_setCell_other (h:=fun e=>hne (congrArg Addr.block e).symm)];exact h.1,by rw [frozen_setCell];exact h.2⟩
end Go.Ulp
namespace Go.Proofs.YtfphmlmgjhebjaaGreatDoor
open Go.RowKit Go.Ulp
set_option maxHeartbeats 2000000
set_option maxRecDepth 100000
end Go.Proofs.YtfphmlmgjhebjaaGreatDoor
namespace Go.Ulp
open Go.RowKit
def dn (N j:Nat):Nat:=N/2^j*2^j
def whole (D:Dy):Int:=D.1*pw D.2.toNat
def ErrZ (w:World) (g n:Nat):Prop:= ∀j,j<n→w.cell? ⟨g,j,none⟩=some (.int .i64 0)
theorem ErrZ.below {w w':World} {g n:Nat} (h:ErrZ w g n) (hb:Below w.heap.size w w'):ErrZ w' g n:=fun j hj=>
 (hb.cell (p:=⟨g,j,none⟩) (World.block_lt_of_cell? w _ (h j hj))).trans (h j hj)
theorem ErrZ.made3 {w:World} {t:TypeId}:ErrZ (w.alloc (.cells #[.int .i64 0,.int .i64 0,.int .i64 0] t)) w.heap.size 3:=by
 intro j hj
 rcases (show j=0∨j=1∨j=2 by omega) with e|e|e<;>subst e<;>(rw [World.cell?_alloc_at (hn:=rfl)];rfl)
theorem ErrZ.made4 {w:World} {t:TypeId}:ErrZ (w.alloc (.cells #[.int .i64 0,.int .i64 0,.int .i64 0,.int .i64 0] t)) w.heap.size 4:=by
 intro j hj
 rcases (show j=0∨j=1∨j=2∨j=3 by omega) with e|e|e|e<;>subst e<;>(rw [World.cell?_alloc_at (hn:=rfl)];rfl)
end Go.Ulp
namespace Go.Proofs.YtfphmlmgjhebjaaGreatDoor
open Go.RowKit Go.Ulp
set_option maxHeartbeats 2000000
set_option maxRecDepth 100000
theorem topOk_any (g n cap:Nat) (w:World) (h:ErrZ w g n) (hn:n≤1000):
 Calls Tryz.prog 32 #[.slice (some ⟨g,0,none⟩) n cap] w fun e w'=>e=.returned (.bool true)∧Below w.heap.size w w':=by
 have H:=hid h
 clear h
 go_enter Tryz.func32,Tryz.ntmps32
 go_wp2_with fail
 go_loopw [7] (fun s7 wr=> ∃j:Nat,s7=.int .i64 (j:Int)∧j≤n∧Below w.heap.size w wr) (fun s7 _=>n-(intOf s7).toNat)
 case atStart=>exact ⟨0,rfl,by omega,Below.refl _ _⟩
 case round=>
  obtain ⟨j,rfl,hj,hb⟩:=hrel
  by_cases hjn:j<n
  ·have hc:=H.out.below hb j hjn
   have g1:(j:Int)<(n:Int):=by omega
   have wI:IntKind.i64.wrap ((j:Int)+1)=(j:Int)+1:=IntWalk.i64_in _ (by omega)
   go_wp2_with fail
   go_roundw
   case rel=>exact ⟨j+1,by go_num,by omega,hb⟩
   case measure=>simp [intOf];omega
  ·have g1: ¬(j:Int)<(n:Int):=by omega
   go_wp2_with fail
   go_ret
   exact ⟨rfl,hb⟩
theorem lives_any (w:World) (hT:Tab 1 w) (hT10:Tab10 w):
 Calls Tryz.prog 28 #[] w fun e w'=>e=.returned (.bool true)∧Below w.heap.size w w':=by
 have LA:=hid (fun w t=>lv_a w t)
 have LB:=hid (fun w t=>lv_b w t)
 have LS:=hid (fun w t=>lv_s w t)
 have LT:=hid (fun w t t10=>lv_t w t t10)
 have LH:=hid (fun w t t10=>lv_h w t t10)
 have HT:=hid hT
 have HT10:=hid hT10
 clear hT hT10
 have OK:=hid (fun g w (h:ErrZ w g 3)=>topOk_any g 3 3 w h (by omega))
 go_enter Tryz.func28,Tryz.ntmps28
 go_wp2_with (first
  |(go_at_call 34;first
   |((with_reducible refine (LA.out _ HT.out).mono ?_);rintro en w1 ⟨rfl,hb1⟩)
   |((with_reducible refine (LB.out _ (HT.out.below hb1)).mono ?_);rintro en w2 ⟨rfl,hb2⟩))
  |(go_at_call 39;(with_reducible refine (LS.out _ (HT.out.below (below_trans hb1 hb2))).mono ?_);rintro en w3 ⟨rfl,hb3⟩;have yb3:=below_trans (below_trans hb1 hb2) hb3)
  |(go_at_call 32;(with_reducible refine (OK.out _ _ ErrZ.made3).mono ?_);rintro en w4 ⟨rfl,hb4⟩;have yb4:=below_trans (below_trans yb3 (below_alloc _ _)) hb4)
  |(go_at_call 35;(with_reducible refine (LT.out _ (HT.out.below yb4) (HT10.out.below yb4)).mono ?_);rintro en w5 ⟨rfl,hb5⟩;have yb5:=below_trans yb4 hb5)
  |(go_at_call 37;(with_reducible refine (LH.out _ (HT.out.below yb5) (HT10.out.below yb5)).mono ?_);rintro en w6 ⟨rfl,hb6⟩))
 go_ret
 exact ⟨rfl,below_trans yb5 hb6⟩
end Go.Proofs.YtfphmlmgjhebjaaGreatDoor
