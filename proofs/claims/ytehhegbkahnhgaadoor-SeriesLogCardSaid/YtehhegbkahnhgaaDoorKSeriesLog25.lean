/- SeriesLog: what the proof leans on, part 25 (Td Ds Dk Se6 Se7 Sg3). -/
import Derived.Test.YtehhegbkahnhgaaDoorKSeriesLog9
import Derived.Test.YtehhegbkahnhgaaDoorKSeriesLog10
import Derived.Test.YtehhegbkahnhgaaDoorKSeriesLog14
import Derived.Test.YtehhegbkahnhgaaDoorKSeriesLog16
import Derived.Test.YtehhegbkahnhgaaDoorKSeriesLog24
set_option linter.unusedVariables false
set_option linter.unusedSimpArgs false
namespace Go.Ulp
open Go.RowKit
def rightD (n:Bool) (L:List Nat) (x:Int):Dy:=(sg n (lval L:Int),x)
theorem right_abs (n:Bool) (L:List Nat) (x:Int):(rightD n L x).1.natAbs=lval L:=by unfold rightD;rw [sg_abs,Int.natAbs_natCast]
theorem right_nrm {n:Bool} {L:List Nat} {x:Int} (hl:Lim L) (hE:dyadE n L x=0):nrm (sg n (lval L:Int)) x=rightD n L x:=by
 obtain ⟨b1,b2,b3,hL,hz,hod⟩:=dyadE_zero hl hE
 refine nrm_of_isN (rightD n L x) ?_
 unfold IsN
 rw [right_abs]
 by_cases h0:lval L=0
 ·left
  refine ⟨?_,(hz h0).2⟩
  unfold rightD;rw [h0];unfold sg;split<;>rfl
 ·exact .inr (hod h0)
def bdE (D:Dy):Int:=if bndB D=true then 0 else 2
def bdD (D:Dy):Dy:=if bndB D=true then D else (0,0)
def RetVE (w:World) (D:Dy) (er:Int) (e:Ending) (w':World):Prop:= ∃v,e=.returned (.tuple #[v,.int .i64 er])∧VD w' D v∧Below w.heap.size w w'
theorem VD.none (w:World):VD w (0,0) (.agg #[.bool false,.slice none 0 0,.int .i64 0]):=⟨Option.none,0,rfl,Ns.nil⟩
end Go.Ulp
namespace Go.Proofs.YtehhegbkahnhgaaDoor
open Go.RowKit Go.Ulp
set_option maxHeartbeats 1000000
set_option maxRecDepth 100000
end Go.Proofs.YtehhegbkahnhgaaDoor
namespace Go.Ulp
open Go.RowKit
theorem VD.none_form {w:World} {v:Value} (h:VD w (0,0) v): ∃am cm,v=.agg #[.bool false,.slice am 0 cm,.int .i64 0]:=by
 obtain ⟨am,cm,rfl,-⟩:=h
 exact ⟨am,cm,by rw [show limbs ((0:Int),(0:Int)).1.natAbs= [] from limbs_zero];rfl⟩
def Fact.ds (n:Bool) (s:Value) (x:Int):Fact:=⟨fun v w=> ∃g,v=.slice (some ⟨g,0,none⟩) 1 1∧DC w g 0 n s x,fun _ _ _ h hb=>by
 obtain ⟨g,h1,h2⟩:=h
 exact ⟨g,h1,h2.below hb⟩⟩
theorem DC.mk1 {w:World} {n:Bool} {v:Value} {e:Int} {t:TypeId}:DC (w.alloc (.cells #[.bool n,v,.int .i64 e] t)) w.heap.size 0 n v e:=by
 refine ⟨?_,?_,?_⟩<;>rw [World.cell?_alloc_at (hn:=rfl)]<;>rfl
theorem dyadE_form (D:Dy) (hI:IsN D) (hB:bndB D=true):dyadE (decide (D.1<0)) (limbs D.1.natAbs) D.2=0:=by
 unfold dyadE
 rw [if_neg (by unfold bndB at hB;rw [hB];simp)]
 rcases hI with ⟨h1,h2⟩|h
 ·rw [h1,h2,if_pos (by rw [show limbs (0:Int).natAbs= [] from limbs_zero];rfl),if_neg (by simp)]
 ·have hpos:0<D.1.natAbs:=by omega
  have hl:=(digs_len_pos 4294967296 (by omega) D.1.natAbs).2 hpos
  have hl':0<(limbs D.1.natAbs).length:=hl
  rw [if_neg (by omega)]
  have ht:=(trim_iff (limbs D.1.natAbs)).1 (limbs_trim D.1.natAbs)
  have h0:(limbs D.1.natAbs).getD 0 0%2=D.1.natAbs%2:=by
   have h1:=val_drop 4294967296 (limbs D.1.natAbs) 0 hl'
   rw [List.drop_zero] at h1
   have h3:=lval_limbs D.1.natAbs
   unfold lval at h3
   omega
  rw [if_neg (by
   intro hc
   rcases hc with hc|hc
   ·rcases ht with h2|h2
    ·omega
    ·exact h2 hc
   ·omega)]
end Go.Ulp
namespace Go.Proofs.YtehhegbkahnhgaaDoor
open Go.RowKit Go.Ulp
set_option maxHeartbeats 2000000
set_option maxRecDepth 100000
theorem told_zero (v:Value) (x:Int) (qa:Option Addr) (qc m:Nat) (w:World) (h:VD w (0,0) v) (hl:(zl x).length=0):
 Calls Tryd.prog 13 #[v,.int .i64 0,.agg #[.bool (zneg x),.slice qa (zl x).length qc,.int .i64 (m:Int)]] w fun e w'=>e=.returned (.bool true)∧Below w.heap.size w w':=by
 obtain ⟨am,cm,rfl⟩:=h.none_form
 clear h
 have zA:QL 24 ((w.alloc (.cells #[.bool false,.slice am 0 cm,.int .i64 0] 24)).alloc (.cells #[.bool (zneg x),.slice qa (zl x).length qc,.int .i64 (m:Int)] 34)) w.heap.size false (.slice am 0 cm) 0:=(QL.made rfl).alloc _
 have zB:QL 34 ((w.alloc (.cells #[.bool false,.slice am 0 cm,.int .i64 0] 24)).alloc (.cells #[.bool (zneg x),.slice qa (zl x).length qc,.int .i64 (m:Int)] 34)) (w.heap.size+1) (zneg x) (.slice qa (zl x).length qc) m:=QL.made (by first|omega|(simp;done)|(simp;omega))
 have yb0:Below w.heap.size w ((w.alloc (.cells #[.bool false,.slice am 0 cm,.int .i64 0] 24)).alloc (.cells #[.bool (zneg x),.slice qa (zl x).length qc,.int .i64 (m:Int)] 34)):=by (repeat' first|(with_reducible first|assumption|apply bR|apply bA|apply bN|apply bD|apply bL|apply bS)|refine bT ?_ (by assumption)|go_size)
 rw [hl] at yb0 zA zB ⊢
 obtain ⟨⟨j0,j1,-,-,-⟩,j2,-⟩:=id zA
 obtain ⟨⟨i0,i1,-,-,-⟩,i2,-⟩:=id zB
 go_enter Tryd.func13,Tryd.ntmps13
 go_wp2_with fail
 refine bodyPost_ret (by simp [results,Tryd.results13,go_sem];try rfl) rfl ?_
 exact ⟨rfl,yb0⟩
theorem told_large (v:Value) (x z:Int) (qa:Option Addr) (qc m n:Nat) (w:World) (h:VD w (0,0) v) (h1:Nz 3 w qa qc (zl x)) (hlx:(zl x).length≤1000000) (hx0:x≠0) (hm:m≤10000000) (hn:tw x.natAbs=n) (hz:x/pw n=z)
 (hb:bndB (z,(n:Int)-m)=false) (hnb:n≤20000000):
 Calls Tryd.prog 13 #[v,.int .i64 2,.agg #[.bool (zneg x),.slice qa (zl x).length qc,.int .i64 (m:Int)]] w fun e w'=>e=.returned (.bool true)∧Below w.heap.size w w':=by
 obtain ⟨am,cm,rfl⟩:=h.none_form
 clear h
 have TW:=hid (fun w h=>ztwos_any qa qc x w h hlx hx0)
 have ZB:=hid (fun a c w h=>zabs_any a c z w h)
 have hxb:(((zl x).length:Int)==0)=false:=beq_eq_false_iff_ne.2 (fun h=>hx0 ((zl_zero_iff x).1 (by omega)))
 rw [hn,hz] at TW
 have hw1:IntKind.i64.wrap ((n:Int)-(m:Int))=(n:Int)-(m:Int):=IntWalk.i64_in _ (by omega)
 have H1:=hid h1
 have zA:QL 24 ((w.alloc (.cells #[.bool false,.slice am 0 cm,.int .i64 0] 24)).alloc (.cells #[.bool (zneg x),.slice qa (zl x).length qc,.int .i64 (m:Int)] 34)) w.heap.size false (.slice am 0 cm) 0:=(QL.made rfl).alloc _
 have zB:QL 34 ((w.alloc (.cells #[.bool false,.slice am 0 cm,.int .i64 0] 24)).alloc (.cells #[.bool (zneg x),.slice qa (zl x).length qc,.int .i64 (m:Int)] 34)) (w.heap.size+1) (zneg x) (.slice qa (zl x).length qc) m:=QL.made (by first|omega|(simp;done)|(simp;omega))
 have yb0:Below w.heap.size w ((w.alloc (.cells #[.bool false,.slice am 0 cm,.int .i64 0] 24)).alloc (.cells #[.bool (zneg x),.slice qa (zl x).length qc,.int .i64 (m:Int)] 34)):=by (repeat' first|(with_reducible first|assumption|apply bR|apply bA|apply bN|apply bD|apply bL|apply bS)|refine bT ?_ (by assumption)|go_size)
 obtain ⟨⟨j0,j1,-,-,-⟩,j2,-⟩:=id zA
 obtain ⟨⟨i0,i1,-,-,-⟩,i2,-⟩:=id zB
 have hbb: ¬((limbs z.natAbs).length≤400∧ -10000≤(n:Int)-m∧(n:Int)-m≤10000):=by
  intro hc;unfold bndB dyB at hb;exact absurd (decide_eq_true hc) (by rw [hb];simp)
 have BT:=hid (fun w=>between_any ((n:Int)-m) (-10000) 10000 w)
 by_cases hE: -10000≤(n:Int)-m∧(n:Int)-m≤10000
 ·rw [decide_eq_true hE] at BT
  obtain ⟨K,hK⟩: ∃K:Nat,K=12800:=⟨_,rfl⟩
  have ZP:=hid (show ∀w,Calls Tryd.prog 32 #[.int .i64 12800] w fun e w'=>RetZ 3 w (pw K) e w' from fun w=>by
   have:=zpow_any K w (by omega)
   rwa [show (K:Int)=12800 by omega] at this)
  have ZC:=hid (show ∀a c b d w,Nz 3 w a c (zl (z.natAbs:Int))→Nz 3 w b d (zl (pw K))→Calls Tryd.prog 27 #[.agg #[.bool (zneg (z.natAbs:Int)),.slice a (zl (z.natAbs:Int)).length c],.agg #[.bool (zneg (pw K)),.slice b (zl (pw K)).length d]] w fun e w'=>e=.returned (.int .i64 (cmpI (z.natAbs:Int) (pw K)))∧Below w.heap.size w w' from fun a c b d w k0 k1=>by
   refine (zcmp_any a b c d (z.natAbs:Int) (pw K) w k0 k1).mono ?_
   rintro e w' ⟨rfl,hh⟩
   exact ⟨rfl,hh⟩)
  have hcm:0≤cmpI (z.natAbs:Int) (pw K):=by
   have h9: ¬(limbs z.natAbs).length≤400:=fun h=>hbb ⟨h,hE⟩
   rw [limbs_le_bits,show 32*400=K by omega] at h9
   have h8:pw K≤(z.natAbs:Int):=by rw [pw_nat];omega
   unfold cmpI;rw [if_neg (by omega)];split<;>omega
  generalize cmpI (z.natAbs:Int) (pw K)=cv at *
  clear h1 hn hz hb hbb hK hx0
  go_enter Tryd.func13,Tryd.ntmps13
  go_wp2_with (first
   |(go_at_call 33;(with_reducible refine (TW.out _ (H1.out.below yb0)).mono ?_);rintro e w1 ⟨az,cz,rfl,hz1,hb1⟩;have zA1:=zA.below hb1;have zB1:=zB.below hb1;obtain ⟨⟨k0,k1,-,-,-⟩,k2,-⟩:=id zA1;obtain ⟨⟨l0,l1,-,-,-⟩,l2,-⟩:=id zB1;have hlt1:=zB1.1.lt;have hlt2:w.heap.size+1≠w1.heap.size:=(by omega))
   |(go_at_call 16;(with_reducible refine (BT.out _).mono ?_);rintro e w2 ⟨rfl,rfl⟩)
   |(go_at_call 28;(refine (ZB.out _ _ _ (hz1.below (by (repeat' first|(with_reducible first|assumption|apply bR|apply bA|apply bN|apply bD|apply bL|apply bS)|refine bT ?_ (by assumption)|go_size)))).mono ?_);rintro e w3 ⟨aa,ca,rfl,hz3,hb3⟩)
   |(go_at_call 32;(with_reducible refine (ZP.out _).mono ?_);rintro e w4 ⟨ap,cp,rfl,hz4,hb4⟩)
   |(go_at_call 27;(refine (ZC.out _ _ _ _ _ (hz3.below (by (repeat' first|(with_reducible first|assumption|apply bR|apply bA|apply bN|apply bD|apply bL|apply bS)|refine bT ?_ (by assumption)|go_size))) (hz4.below (by (repeat' first|(with_reducible first|assumption|apply bR|apply bA|apply bN|apply bD|apply bL|apply bS)|refine bT ?_ (by assumption)|go_size)))).mono ?_);rintro e w5 ⟨rfl,hb5⟩))
  refine bodyPost_ret (by simp [results,Tryd.results13,go_sem];try rfl) rfl ?_
  exact ⟨rfl,by (repeat' first|(with_reducible first|assumption|apply bR|apply bA|apply bN|apply bD|apply bL|apply bS)|refine bT ?_ (by assumption)|go_size)⟩
 ·rw [decide_eq_false hE] at BT
  clear h1 hn hz hb hbb hx0
  go_enter Tryd.func13,Tryd.ntmps13
  go_wp2_with (first
   |(go_at_call 33;(with_reducible refine (TW.out _ (H1.out.below yb0)).mono ?_);rintro e w1 ⟨az,cz,rfl,hz1,hb1⟩;have zA1:=zA.below hb1;have zB1:=zB.below hb1;obtain ⟨⟨k0,k1,-,-,-⟩,k2,-⟩:=id zA1;obtain ⟨⟨l0,l1,-,-,-⟩,l2,-⟩:=id zB1;have hlt1:=zB1.1.lt;have hlt2:w.heap.size+1≠w1.heap.size:=(by omega))
   |(go_at_call 16;(with_reducible refine (BT.out _).mono ?_);rintro e w2 ⟨rfl,rfl⟩))
  refine bodyPost_ret (by simp [results,Tryd.results13,go_sem];try rfl) rfl ?_
  exact ⟨rfl,by (repeat' first|(with_reducible first|assumption|apply bR|apply bA|apply bN|apply bD|apply bL|apply bS)|refine bT ?_ (by assumption)|go_size)⟩
theorem told_ok (v:Value) (D:Dy) (x:Int) (qa:Option Addr) (qc m n B:Nat) (hB:B≤1000000) (w:World) (h:VD w D v) (h1:Nz 3 w qa qc (zl x)) (hxA:x.natAbs<2^B) (hx0:x≠0) (hm:m≤1000000) (hn:tw x.natAbs=n) (hz:x/pw n=D.1)
 (hD:nrm x (-(m:Int))=D) (hnm:(n:Int)-m=D.2) (hb:bndB D=true) (hnb:n≤20000000):
 Calls Tryd.prog 13 #[v,.int .i64 0,.agg #[.bool (zneg x),.slice qa (zl x).length qc,.int .i64 (m:Int)]] w fun e w'=>e=.returned (.bool true)∧Below w.heap.size w w':=by
 obtain ⟨am,cm,rfl,hN⟩:=h
 have hlx:(zl x).length≤1000000:=Nat.le_trans (zl_len_bits x B hxA) hB
 have hI:IsN D:=by rw [←hD];exact nrm_isN _ _
 have hE:=dyadE_form D hI hb
 obtain ⟨b1,b2,b3⟩:=dyB_true (show dyB (limbs D.1.natAbs).length D.2=true from hb)
 have hD0:D.1≠0:=by
  intro h0;apply hx0
  have h2:=congrArg Prod.fst hD
  exact (nrm_zero_iff x (-(m:Int))).1 (h2.trans h0)
 have hlb:(((limbs D.1.natAbs).length:Int)==0)=false:=beq_eq_false_iff_ne.2 (fun h=>hD0 ((dy_len D).1 (by omega)))
 have TW:=hid (fun w h=>ztwos_any qa qc x w h hlx hx0)
 rw [hn,hz] at TW
 have ZB:=hid (fun a c w h=>zabs_any a c D.1 w h)
 have hxb:(((zl x).length:Int)==0)=false:=beq_eq_false_iff_ne.2 (fun h=>hx0 ((zl_zero_iff x).1 (by omega)))
 have hw1:IntKind.i64.wrap ((n:Int)-(m:Int))=D.2:=by rw [hnm];exact IntWalk.i64_in _ (by omega)
 have BT:=hid (show ∀w,Calls Tryd.prog 16 #[.int .i64 D.2,.int .i64 (-10000),.int .i64 10000] w fun e w'=>e=.returned (.bool true)∧w=w' from fun w=>by
  have:=between_any D.2 (-10000) 10000 w
  rwa [decide_eq_true ⟨b2,b3⟩] at this)
 obtain ⟨K,hK⟩: ∃K:Nat,K=12800:=⟨_,rfl⟩
 have ZP:=hid (show ∀w,Calls Tryd.prog 32 #[.int .i64 12800] w fun e w'=>RetZ 3 w (pw K) e w' from fun w=>by
  have:=zpow_any K w (by omega)
  rwa [show (K:Int)=12800 by omega] at this)
 have ZC:=hid (fun a c b d w h0 h1=>zcmp_any a b c d (D.1.natAbs:Int) (pw K) w h0 h1)
 have hcm:cmpI (D.1.natAbs:Int) (pw K)= -1:=by
  have h9:=b1
  rw [limbs_le_bits,show 32*400=K by omega] at h9
  have h8:(D.1.natAbs:Int)<pw K:=by rw [pw_nat];omega
  unfold cmpI;rw [if_pos h8]
 rw [hcm] at ZC
 have DR:=hid (fun g w k h=>dyadRight1_any g (decide (D.1<0)) am cm (limbs D.1.natAbs) D.2 w k h (lim_limbs _))
 rw [hE] at DR
 have QO:=hid (show ∀w,Ns .u32 w am cm (limbs D.1.natAbs)→Calls Tryd.prog 9 #[.agg #[.bool (decide (D.1<0)),.slice am (limbs D.1.natAbs).length cm,.int .i64 D.2]] w fun e w'=>RetQD 3 w D 400000 200000 e w' from fun w h=>by
  have:=qof_any (decide (D.1<0)) D.1.natAbs am cm D.2 w h (by omega) (by omega)
  rw [sg_self] at this
  have e:nrm D.1 D.2=D:=nrm_of_isN D hI
  rwa [e] at this)
 have QC:=hid (show ∀u w,QD 3 w D 400000 200000 u→Nz 3 w qa qc (zl x)→Calls Tryd.prog 7 #[u,.agg #[.bool (zneg x),.slice qa (zl x).length qc,.int .i64 (m:Int)]] w fun e w'=>e=.returned (.int .i64 0)∧Below w.heap.size w w' from fun u w k0 k1=>by
  have:=qcmp_any u _ D D 400000 200000 B 1000000 w k0 ⟨x,m,qa,qc,rfl,k1,hD,hxA,hm⟩ (by omega) (by omega) (by omega) (by omega)
  rwa [cmpD_self] at this)
 have H1:=hid h1
 have HN:=hid hN
 have hcap:=hN.1
 generalize (limbs D.1.natAbs).length=nl at *
 generalize decide (D.1<0)=ng at *
 have zA:QL 24 ((w.alloc (.cells #[.bool ng,.slice am nl cm,.int .i64 D.2] 24)).alloc (.cells #[.bool (zneg x),.slice qa (zl x).length qc,.int .i64 (m:Int)] 34)) w.heap.size ng (.slice am nl cm) D.2:=(QL.made rfl).alloc _
 have zB:QL 34 ((w.alloc (.cells #[.bool ng,.slice am nl cm,.int .i64 D.2] 24)).alloc (.cells #[.bool (zneg x),.slice qa (zl x).length qc,.int .i64 (m:Int)] 34)) (w.heap.size+1) (zneg x) (.slice qa (zl x).length qc) m:=QL.made (by first|omega|(simp;done)|(simp;omega))
 have yb0:Below w.heap.size w ((w.alloc (.cells #[.bool ng,.slice am nl cm,.int .i64 D.2] 24)).alloc (.cells #[.bool (zneg x),.slice qa (zl x).length qc,.int .i64 (m:Int)] 34)):=by (repeat' first|(with_reducible first|assumption|apply bR|apply bA|apply bN|apply bD|apply bL|apply bS)|refine bT ?_ (by assumption)|go_size)
 clear h1 hN hn hz hnm hE hI hb hK hx0 hcm hD0 hxA
 go_enter Tryd.func13,Tryd.ntmps13
 go_upto_region 1 with fail
 have hN2:=HN.out.below yb0
 have h12:=H1.out.below yb0
 obtain ⟨W2,hW2⟩: ∃W,W=((w.alloc (.cells #[.bool ng,.slice am nl cm,.int .i64 D.2] 24)).alloc (.cells #[.bool (zneg x),.slice qa (zl x).length qc,.int .i64 (m:Int)] 34)):=⟨_,rfl⟩
 rw [←hW2] at zA zB yb0 hN2 h12 ⊢
 clear hW2
 obtain ⟨⟨j0,j1,-,-,-⟩,j2,-⟩:=id zA
 obtain ⟨⟨i0,i1,-,-,-⟩,i2,-⟩:=id zB
 go_upto_region 8 with (first
  |(go_at_call 33;(with_reducible refine (TW.out _ h12).mono ?_);rintro e w1 ⟨az,cz,rfl,hz1,hb1⟩;have zA1:=zA.below hb1;have zB1:=zB.below hb1;obtain ⟨⟨k0,k1,-,-,-⟩,k2,-⟩:=id zA1;obtain ⟨⟨l0,l1,-,-,-⟩,l2,-⟩:=id zB1;have hlt1:=zB1.1.lt;have hlt2:w.heap.size+1≠w1.heap.size:=(by omega))
  |(go_at_call 16;(with_reducible refine (BT.out _).mono ?_);rintro e w2 ⟨rfl,rfl⟩)
  |(go_at_call 28;(refine (ZB.out _ _ _ (hz1.below (by (repeat' first|(with_reducible first|assumption|apply bR|apply bA|apply bN|apply bD|apply bL|apply bS)|refine bT ?_ (by assumption)|go_size)))).mono ?_);rintro e w3 ⟨aa,ca,rfl,hz3,hb3⟩)
  |(go_at_call 32;(with_reducible refine (ZP.out _).mono ?_);rintro e w4 ⟨ap,cp,rfl,hz4,hb4⟩)
  |(go_at_call 27;(refine (ZC.out _ _ _ _ _ (hz3.below (by (repeat' first|(with_reducible first|assumption|apply bR|apply bA|apply bN|apply bD|apply bL|apply bS)|refine bT ?_ (by assumption)|go_size))) (hz4.below (by (repeat' first|(with_reducible first|assumption|apply bR|apply bA|apply bN|apply bD|apply bL|apply bS)|refine bT ?_ (by assumption)|go_size)))).mono ?_);rintro e w5 ⟨rfl,hb5⟩;have yb5:Below W2.heap.size W2 w5:=(by (repeat' first|(with_reducible first|assumption|apply bR|apply bA|apply bN|apply bD|apply bL|apply bS)|refine bT ?_ (by assumption)|go_size))))
 have zA5:=zA.below yb5
 have zB5:=zB.below yb5
 have hN5:=hN2.below yb5
 have h15:=h12.below yb5
 have ybw:=below_trans yb0 yb5
 clear hb1 hb3 hb4 hb5 zA1 zB1 k0 k1 k2 l0 l1 l2 j0 j1 j2 i0 i1 i2 hz1 hz3 hz4 hlt1 hlt2 hw1
 refine wp_region_grow 16 [60,61,62,63,64,65,66,67,68,69,70,71,72,73,74,6] [Fact.is (.int .i64 0),Fact.is (.bool true),Fact.is (.bool true),Fact.is (.agg #[.bool ng,.slice am nl cm,.int .i64 D.2]),Fact.ds ng (.slice am nl cm) D.2,Fact.is (.int .i64 0),Fact.is (.bool true),Fact.is (.bool true),Fact.is (.bool true),Fact.is (.agg #[.bool ng,.slice am nl cm,.int .i64 D.2]),Fact.q 3 D 400000 200000,Fact.is (.agg #[.bool (zneg x),.slice qa (zl x).length qc,.int .i64 (m:Int)]),Fact.is (.int .i64 0),Fact.is (.bool true),Fact.is (.bool true),Fact.is (.bool true)] (by kernel_rfl) (by kernel_rfl) ⟨?o0,?o1,?o2,?o3,?o4,?o5,?o6,?o7,?o8,?o9,?o10,?o11,?o12,?o13,?o14,?o15,trivial⟩ ?after
 case o0=>(refine oQ rfl ?_;intro ρ w1 R hcon hfn hρ hb hp hR;have e1:ρ (.tmp 1)=.int .i64 0:=hρ.tmp 1 rfl;clear hρ hp;unfold OpRun;go_simp;exact hR _ _ (Below.refl _ _) rfl)
 case o1=>(refine oQ rfl ?_;intro ρ w1 R hcon hfn hρ hb hp hR;have e60:ρ (.tmp 60)=_:=hp 0 60 rfl rfl;clear hρ hp;unfold OpRun;go_simp;exact hR _ _ (Below.refl _ _) rfl)
 case o2=>(refine oQ rfl ?_;intro ρ w1 R hcon hfn hρ hb hp hR;have e61:ρ (.tmp 61)=_:=hp 1 61 rfl rfl;clear hρ hp;unfold OpRun;go_simp;exact hR _ _ (Below.refl _ _) rfl)
 case o3=>(intro ρ w1 R hρ hb hp hR;have eg:ρ (.tmp 62)=.bool true:=hp 2 62 rfl rfl;refine ⟨fun _=>?_,fun hg=>absurd hg (by simp [guardOf,eg])⟩;clear eg;have e3:ρ (.tmp 3)=.pointer (some ⟨w.heap.size,0,none⟩):=hρ.tmp 3 rfl;obtain ⟨⟨j0,j1,-,-,-⟩,j2,-⟩:=zA5.below hb;have hcon:=hρ.con;have hfn:=hρ.fn;clear hρ hp;unfold OpRun;go_simp;exact hR _ _ (Below.refl _ _) rfl)
 case o4=>(intro ρ w1 R hρ hb hp hR;have eg:ρ (.tmp 62)=.bool true:=hp 2 62 rfl rfl;refine ⟨fun _=>?_,fun hg=>absurd hg (by simp [guardOf,eg])⟩;clear eg;have e63:ρ (.tmp 63)=_:=hp 3 63 rfl rfl;have hcon:=hρ.con;have hfn:=hρ.fn;clear hρ hp;unfold OpRun;go_simp;exact hR _ _ (below_alloc _ _) ⟨_,rfl,DC.mk1⟩)
 case o5=>(intro ρ w1 R hρ hb hp hR;have eg:ρ (.tmp 62)=.bool true:=hp 2 62 rfl rfl;refine ⟨fun _=>?_,fun hg=>absurd hg (by simp [guardOf,eg])⟩;clear eg;have f64:=hp 4 64 rfl rfl;obtain ⟨g64,e64,hd64⟩:=f64;have hcon:=hρ.con;have hfn:=hρ.fn;clear hρ hp;unfold OpRun;go_simp;(refine (DR.out _ _ hd64 (hN5.below hb)).mono ?_;rintro e wn ⟨rfl,hbn⟩;exact ⟨_,rfl,hR _ _ hbn rfl⟩))
 case o6=>(intro ρ w1 R hρ hb hp hR;have eg:ρ (.tmp 62)=.bool true:=hp 2 62 rfl rfl;refine ⟨fun _=>?_,fun hg=>absurd hg (by simp [guardOf,eg])⟩;clear eg;have e65:ρ (.tmp 65)=_:=hp 5 65 rfl rfl;have hcon:=hρ.con;have hfn:=hρ.fn;clear hρ hp;unfold OpRun;go_simp;exact hR _ _ (Below.refl _ _) rfl)
 case o7=>(refine oQ rfl ?_;intro ρ w1 R hcon hfn hρ hb hp hR;have e62:ρ (.tmp 62)=_:=hp 2 62 rfl rfl;have e66:ρ (.tmp 66)=_:=hp 6 66 rfl rfl;clear hρ hp;unfold OpRun;go_simp;exact hR _ _ (Below.refl _ _) rfl)
 case o8=>(refine oQ rfl ?_;intro ρ w1 R hcon hfn hρ hb hp hR;have e67:ρ (.tmp 67)=_:=hp 7 67 rfl rfl;clear hρ hp;unfold OpRun;go_simp;exact hR _ _ (Below.refl _ _) rfl)
 case o9=>(intro ρ w1 R hρ hb hp hR;have eg:ρ (.tmp 68)=.bool true:=hp 8 68 rfl rfl;refine ⟨fun _=>?_,fun hg=>absurd hg (by simp [guardOf,eg])⟩;clear eg;have e3:ρ (.tmp 3)=.pointer (some ⟨w.heap.size,0,none⟩):=hρ.tmp 3 rfl;obtain ⟨⟨j0,j1,-,-,-⟩,j2,-⟩:=zA5.below hb;have hcon:=hρ.con;have hfn:=hρ.fn;clear hρ hp;unfold OpRun;go_simp;exact hR _ _ (Below.refl _ _) rfl)
 case o10=>(intro ρ w1 R hρ hb hp hR;have eg:ρ (.tmp 68)=.bool true:=hp 8 68 rfl rfl;refine ⟨fun _=>?_,fun hg=>absurd hg (by simp [guardOf,eg])⟩;clear eg;have e69:ρ (.tmp 69)=_:=hp 9 69 rfl rfl;have hcon:=hρ.con;have hfn:=hρ.fn;clear hρ hp;unfold OpRun;go_simp;(refine (QO.out _ (hN5.below hb)).mono ?_;rintro e wn ⟨v9,rfl,hv9,hbn⟩;exact ⟨_,rfl,hR _ _ hbn hv9⟩))
 case o11=>(intro ρ w1 R hρ hb hp hR;have eg:ρ (.tmp 68)=.bool true:=hp 8 68 rfl rfl;refine ⟨fun _=>?_,fun hg=>absurd hg (by simp [guardOf,eg])⟩;clear eg;have e5:ρ (.tmp 5)=.pointer (some ⟨w.heap.size+1,0,none⟩):=hρ.tmp 5 rfl;obtain ⟨⟨i0,i1,-,-,-⟩,i2,-⟩:=zB5.below hb;have hcon:=hρ.con;have hfn:=hρ.fn;clear hρ hp;unfold OpRun;go_simp;exact hR _ _ (Below.refl _ _) rfl)
 case o12=>(intro ρ w1 R hρ hb hp hR;have eg:ρ (.tmp 68)=.bool true:=hp 8 68 rfl rfl;refine ⟨fun _=>?_,fun hg=>absurd hg (by simp [guardOf,eg])⟩;clear eg;have f70:=hp 10 70 rfl rfl;have e71:ρ (.tmp 71)=_:=hp 11 71 rfl rfl;have hcon:=hρ.con;have hfn:=hρ.fn;clear hρ hp;unfold OpRun;go_simp;(refine (QC.out _ _ f70 (h15.below hb)).mono ?_;rintro e wn ⟨rfl,hbn⟩;exact ⟨_,rfl,hR _ _ hbn rfl⟩))
 case o13=>(intro ρ w1 R hρ hb hp hR;have eg:ρ (.tmp 68)=.bool true:=hp 8 68 rfl rfl;refine ⟨fun _=>?_,fun hg=>absurd hg (by simp [guardOf,eg])⟩;clear eg;have e72:ρ (.tmp 72)=_:=hp 12 72 rfl rfl;have hcon:=hρ.con;have hfn:=hρ.fn;clear hρ hp;unfold OpRun;go_simp;exact hR _ _ (Below.refl _ _) rfl)
 case o14=>(refine oQ rfl ?_;intro ρ w1 R hcon hfn hρ hb hp hR;have e68:ρ (.tmp 68)=_:=hp 8 68 rfl rfl;have e73:ρ (.tmp 73)=_:=hp 13 73 rfl rfl;clear hρ hp;unfold OpRun;go_simp;exact hR _ _ (Below.refl _ _) rfl)
 case o15=>(refine oQ rfl ?_;intro ρ w1 R hcon hfn hρ hb hp hR;have e74:ρ (.tmp 74)=_:=hp 14 74 rfl rfl;clear hρ hp;unfold OpRun;go_simp;exact hR _ _ (Below.refl _ _) rfl)
 case after=>
  intro u wn hb hf
  have e6:u 6=_:=hf 15 6 (by omega) rfl
  clear hf
  simp only [putAll,Act.put,List.setIfInBounds_toArray,List.set_cons_zero,List.set_cons_succ,List.drop_succ_cons,List.drop_zero,List.drop_nil]
  rw [e6]
  go_wp2_with fail
  refine bodyPost_ret (by simp [results,Tryd.results13,go_sem];try rfl) rfl ?_
  exact ⟨rfl,below_trans ybw hb⟩
theorem told_any (v u:Value) (D:Dy) (A T:Nat) (w:World) (hv:VD w (bdD D) v) (hu:QD 3 w D A T u) (hA:A≤1000000) (hT:T≤1000000):
 Calls Tryd.prog 13 #[v,.int .i64 (bdE D),u] w fun e w'=>e=.returned (.bool true)∧Below w.heap.size w w':=by
 obtain ⟨x,m,qa,qc,rfl,h1,hD,hxA,hm⟩:=hu
 by_cases hx0:x=0
 ·subst hx0
  have e:D=(0,0):=by rw [←hD];rfl
  subst e
  exact told_zero v 0 qa qc m w hv rfl
 ·have hlx:(zl x).length≤1000000:=Nat.le_trans (zl_len_bits x A hxA) hA
  have hD1:D.1=x/pw (tw x.natAbs):=by rw [←hD];unfold nrm;rw [if_neg hx0]
  have hD2:D.2=(tw x.natAbs:Int)-m:=by rw [←hD];unfold nrm;rw [if_neg hx0];show -(m:Int)+_=_;omega
  have hnb:tw x.natAbs≤20000000:=by
   have:=(tw_bound (x:=x) (z:=x/pw (tw x.natAbs)) (n:=tw x.natAbs) (div_pw_tw x).symm (by intro h0;have:=div_pw_tw x;rw [h0,Int.zero_mul] at this;exact hx0 this.symm) hlx).1
   omega
  cases hb:bndB D
  ·have e1:bdE D=2:=by unfold bdE;rw [hb];rfl
   have e2:bdD D=(0,0):=by unfold bdD;rw [hb];rfl
   rw [e1]
   rw [e2] at hv
   refine told_large v x _ qa qc m _ w hv h1 hlx hx0 (by omega) rfl rfl ?_ hnb
   rw [←hD1,←hD2];exact hb
  ·have e1:bdE D=0:=by unfold bdE;rw [hb];rfl
   have e2:bdD D=D:=by unfold bdD;rw [hb];rfl
   rw [e1]
   rw [e2] at hv
   exact told_ok v D x qa qc m _ A hA w hv h1 hxA hx0 (by omega) rfl hD1.symm hD hD2.symm hb hnb
set_option maxHeartbeats 4000000
theorem noDyad0_any (am:Option Addr) (cm:Nat) (w:World):Calls Tryd.prog 12 #[.agg #[.bool false,.slice am 0 cm,.int .i64 0]] w fun e w'=>e=.returned (.bool true)∧Below w.heap.size w w':=by
 have zA:QL 24 (w.alloc (.cells #[.bool false,.slice am 0 cm,.int .i64 0] 24)) w.heap.size false (.slice am 0 cm) 0:=QL.made rfl
 obtain ⟨⟨j0,j1,-,-,-⟩,j2,-⟩:=id zA
 go_enter Tryd.func12,Tryd.ntmps12
 go_wp2_with fail
 refine bodyPost_ret (by simp [results,Tryd.results12,go_sem];try rfl) rfl ?_
 exact ⟨rfl,below_alloc _ _⟩
end Go.Proofs.YtehhegbkahnhgaaDoor
namespace Go.Ulp
open Go.RowKit
theorem lb_ext {L M:List Nat} (hl:L.length=M.length) (h: ∀j,j<L.length→lb L j=lb M j):L=M:=by
 refine List.ext_getElem hl (fun j h1 h2=>?_)
 have:=h j h1
 unfold lb at this
 rw [List.getD_eq_getElem?_getD,List.getElem?_eq_getElem h1,List.getD_eq_getElem?_getD,List.getElem?_eq_getElem h2] at this
 exact Int.ofNat_inj.1 (by simpa using this)
end Go.Ulp
namespace Go.Proofs.YtehhegbkahnhgaaDoor
open Go.RowKit Go.Ulp
set_option maxHeartbeats 1000000
set_option maxRecDepth 100000
theorem sliceEq_any (a0 a1:Option Addr) (c0 c1:Nat) (L M:List Nat) (w:World) (h0:Ns .u32 w a0 c0 L) (h1:Ns .u32 w a1 c1 M):
 Calls Tryd.prog 70 #[.slice a0 L.length c0,.slice a1 M.length c1] w fun e w'=>e=.returned (.bool (decide (L=M)))∧Below w.heap.size w w':=by
 obtain ⟨h01,h02,h03⟩:=h0
 obtain ⟨h11,h12,h13⟩:=h1
 unfold maxLen at h02 h12
 by_cases hl:L.length=M.length
 ·have hlb:((L.length:Int) !=(M.length:Int))=false:=by rw [bne_eq_false_iff_eq];omega
  have hl1:L.length≤M.length:=by omega
  have hl2:M.length≤L.length:=by omega
  have HL:=hid hl
  have HR:=hid (fun (b:Bool) (h:b=decide (L=M))=>h)
  have HX:=hid (fun h=>lb_ext hl h)
  have HN:=hid (fun (j:Nat) (h:lb L j≠lb M j)=>(fun e=>h (by rw [e]): ¬L=M))
  clear hl
  go_enter Tryd.func70,Tryd.ntmps70
  go_wp2_with fail
  go_loopw [13] (fun i wr=> ∃i0:Nat,i=.int .i64 (i0:Int)∧i0≤L.length∧(∀j,j<i0→lb L j=lb M j)∧Below w.heap.size w wr) (fun i _=>(L.length-(intOf i).toNat))
  case atStart=>exact ⟨0,rfl,by omega,fun j hj=>by omega,Below.refl _ _⟩
  case round=>
   obtain ⟨j,rfl,hi1,hdr,hb⟩:=hrel
   by_cases hi:(j:Int)<(L.length:Int)
   ·obtain ⟨b0,o0,rfl,hc0⟩:=h03 (by omega)
    obtain ⟨b1,o1,rfl,hc1⟩:=h13 (by omega)
    have k0:=(hb.cell (p:=⟨b0,o0+j,none⟩) (World.block_lt_of_cell? _ _ (hc0 j (by omega)))).trans (hc0 j (by omega))
    have k1:=(hb.cell (p:=⟨b1,o1+j,none⟩) (World.block_lt_of_cell? _ _ (hc1 j (by omega)))).trans (hc1 j (by omega))
    clear hc0 hc1 h03 h13
    have HD:=hid hdr
    clear hdr
    have hj1:(j:Int)<(M.length:Int):=by omega
    by_cases he:lb L j=lb M j
    ·have heb:(lb L j !=lb M j)=false:=by simpa using he
     have HE:=hid he
     clear he
     go_wp2_with fail
     go_quiet (fail)
     go_wp2_with fail
     go_roundw
     case rel=>exact ⟨j+1,by go_num,by omega,fun i hi=>by
      by_cases e:i=j
      ·rw [e];exact HE.out
      ·exact HD.out i (by omega),by (repeat' first|(with_reducible first|assumption|apply bR|apply bA|apply bN|apply bD|apply bL|apply bS)|refine bT ?_ (by assumption)|go_size)⟩
     case measure=>simp [intOf];omega
    ·have heb:(lb L j !=lb M j)=true:=by simpa using he
     have HF:=hid (HN.out j he)
     clear he
     go_wp2_with fail
     go_quiet (fail)
     go_wp2_with fail
     go_ret
     exact ⟨ret_bool (by rw [decide_eq_false HF.out]),by (repeat' first|(with_reducible first|assumption|apply bR|apply bA|apply bN|apply bD|apply bL|apply bS)|refine bT ?_ (by assumption)|go_size)⟩
   ·have HD:=hid (fun k (hk:k<L.length)=>hdr k (by omega))
    clear hdr
    go_wp2_with fail
    go_ret
    exact ⟨ret_bool (by rw [decide_eq_true (HX.out HD.out)]),by (repeat' first|(with_reducible first|assumption|apply bR|apply bA|apply bN|apply bD|apply bL|apply bS)|refine bT ?_ (by assumption)|go_size)⟩
 ·have hlb:((L.length:Int) !=(M.length:Int))=true:=by rw [bne_iff_ne];omega
  have HF:=hid (show ¬L=M from fun e=>hl (by rw [e]))
  clear hl
  go_enter Tryd.func70,Tryd.ntmps70
  go_wp2_with fail
  go_ret
  exact ⟨ret_bool (by rw [decide_eq_false HF.out]),Below.refl _ _⟩
end Go.Proofs.YtehhegbkahnhgaaDoor
namespace Go.Ulp
open Go.RowKit
def sameB (n0:Bool) (L0:List Nat) (x0:Int) (n1:Bool) (L1:List Nat) (x1:Int):Bool:=decide (n0=n1∧x0=x1∧L0=L1)
end Go.Ulp
namespace Go.Proofs.YtehhegbkahnhgaaDoor
open Go.RowKit Go.Ulp
set_option maxHeartbeats 1000000
set_option maxRecDepth 100000
theorem same_any (n0:Bool) (a0:Option Addr) (c0:Nat) (L0:List Nat) (x0:Int) (n1:Bool) (a1:Option Addr) (c1:Nat) (L1:List Nat) (x1:Int) (w:World) (h0:Ns .u32 w a0 c0 L0) (h1:Ns .u32 w a1 c1 L1):
 Calls Tryd.prog 40 #[.agg #[.bool n0,.slice a0 L0.length c0,.int .i64 x0],.agg #[.bool n1,.slice a1 L1.length c1,.int .i64 x1]] w fun e w'=>e=.returned (.bool (sameB n0 L0 x0 n1 L1 x1))∧Below w.heap.size w w':=by
 have SE:=hid (fun w h0 h1=>sliceEq_any a0 a1 c0 c1 L0 L1 w h0 h1)
 have H0:=hid h0
 have H1:=hid h1
 have zA0:QL 24 ((w.alloc (.cells #[.bool n0,.slice a0 L0.length c0,.int .i64 x0] 24)).alloc (.cells #[.bool n1,.slice a1 L1.length c1,.int .i64 x1] 24)) w.heap.size n0 (.slice a0 L0.length c0) x0:=(QL.made rfl).alloc _
 have zB0:QL 24 ((w.alloc (.cells #[.bool n0,.slice a0 L0.length c0,.int .i64 x0] 24)).alloc (.cells #[.bool n1,.slice a1 L1.length c1,.int .i64 x1] 24)) (w.heap.size+1) n1 (.slice a1 L1.length c1) x1:=QL.made (by first|omega|(simp;done)|(simp;omega))
 have yb0:Below w.heap.size w ((w.alloc (.cells #[.bool n0,.slice a0 L0.length c0,.int .i64 x0] 24)).alloc (.cells #[.bool n1,.slice a1 L1.length c1,.int .i64 x1] 24)):=by (repeat' first|(with_reducible first|assumption|apply bR|apply bA|apply bN|apply bD|apply bL|apply bS)|refine bT ?_ (by assumption)|go_size)
 obtain ⟨⟨j0,j1,-,-,-⟩,j2,-⟩:=id zA0
 obtain ⟨⟨i0,i1,-,-,-⟩,i2,-⟩:=id zB0
 clear h0 h1
 by_cases hn:n0=n1
 ·by_cases hx:x0=x1
  ·have e:sameB n0 L0 x0 n1 L1 x1=decide (L0=L1):=by unfold sameB;simp only [hn,hx,true_and]
   rw [e]
   generalize decide (L0=L1)=b at *
   have hnb:(n0==n1)=true:=beq_iff_eq.2 hn
   have hxb:(x0==x1)=true:=beq_iff_eq.2 hx
   clear hn hx e
   go_enter Tryd.func40,Tryd.ntmps40
   go_wp2_with (go_at_call 70;(with_reducible refine (SE.out _ (H0.out.below yb0) (H1.out.below yb0)).mono ?_);rintro en w1 ⟨rfl,hb1⟩)
   refine bodyPost_ret (by simp [results,Tryd.results40,go_sem];try rfl) rfl ?_
   exact ⟨rfl,below_trans yb0 hb1⟩
  ·have e:sameB n0 L0 x0 n1 L1 x1=false:=by unfold sameB;exact decide_eq_false (fun h=>hx h.2.1)
   rw [e]
   have hnb:(n0==n1)=true:=beq_iff_eq.2 hn
   have hxb:(x0==x1)=false:=beq_eq_false_iff_ne.2 hx
   clear hn hx e SE
   go_enter Tryd.func40,Tryd.ntmps40
   go_wp2_with fail
   refine bodyPost_ret (by simp [results,Tryd.results40,go_sem];try rfl) rfl ?_
   exact ⟨rfl,yb0⟩
 ·have e:sameB n0 L0 x0 n1 L1 x1=false:=by unfold sameB;exact decide_eq_false (fun h=>hn h.1)
  rw [e]
  have hnb:(n0==n1)=false:=beq_eq_false_iff_ne.2 hn
  clear hn e SE
  go_enter Tryd.func40,Tryd.ntmps40
  go_wp2_with fail
  refine bodyPost_ret (by simp [results,Tryd.results40,go_sem];try rfl) rfl ?_
  exact ⟨rfl,yb0⟩
set_option maxHeartbeats 4000000
end Go.Proofs.YtehhegbkahnhgaaDoor
namespace Go.Ulp
open Go.RowKit
def FL (D:Dy) (pl:Nat):Prop:=(limbs D.1.natAbs).length≤4294967296∧(-274877906944≤D.2∧D.2≤274877906944)∧(limbs (cutN (decide (D.1<0)) D.1.natAbs (-(pl:Int)-D.2) 2)).length≤4294967296
def BndOK (Good:Nat→Dy→Dy→Prop) (pl:Nat):Prop:=(∀p D E,Good p D E→FL D pl∧FL E pl)∧ ∀p D E,Good p D E→17179869184≤p→mplD D (-(pl:Int)) 2=mplD E (-(pl:Int)) 2
theorem same_dy (D E:Dy):sameB (decide (D.1<0)) (limbs D.1.natAbs) D.2 (decide (E.1<0)) (limbs E.1.natAbs) E.2=decide (D=E):=by
 unfold sameB
 refine decide_eq_decide.2 ⟨fun ⟨h1,h2,h3⟩=>?_,fun h=>by rw [h];exact ⟨rfl,rfl,rfl⟩⟩
 have h4:=congrArg lval h3
 rw [lval_limbs,lval_limbs] at h4
 have h5:=decide_eq_decide.1 h1
 exact Prod.ext (by omega) h2
end Go.Ulp
namespace Go.Proofs.YtehhegbkahnhgaaDoor
open Go.RowKit Go.Ulp
set_option maxHeartbeats 4000000
set_option maxRecDepth 100000
theorem floor9_any (pl p0 fn:Nat) (cp:Value) (Good:Nat→Dy→Dy→Prop) (w:World) (hpl:pl≤1300) (hp0:20≤p0) (hp:p0≤17179869184) (hT:Tab 0 w) (hfn: ∀(p:Int) w,Sem.run Tryd.prog (callFunc fn #[.int .i64 p,cp]) w=.ok (.enter fn #[.int .i64 p,cp]) w)
 (hG:BndOK Good pl) (hC: ∀(p:Nat) w',20≤p→p≤34359738368→Below w.heap.size w w'→Calls Tryd.prog fn #[.int .i64 (p:Int),cp] w' fun en w''=> ∃D E,Good p D E∧RetVD2 w' D E en w''):
 Calls Tryd.prog 22 #[.int .i64 (pl:Int),.int .i64 (p0:Int),.func (.func fn) #[] #[cp]] w fun en w'=> ∃p D E,Good p D E∧mplD D (-(pl:Int)) 2=mplD E (-(pl:Int)) 2∧RetVD w (mplD D (-(pl:Int)) 2) en w':=by
 obtain ⟨hF,hE⟩:=hG
 have HC:=hid hC
 have HT:=hid hT
 have MU:=hid (fun v D w h (f:FL D pl)=>multiple_any v D (-(pl:Int)) 2 w h f.1 f.2.1 (by omega) f.2.2)
 have SA:=hid (fun (D E:Dy) a0 c0 a1 c1 w h0 h1=>same_any (decide (D.1<0)) a0 c0 (limbs D.1.natAbs) D.2 (decide (E.1<0)) a1 c1 (limbs E.1.natAbs) E.2 w h0 h1)
 simp only [same_dy] at SA
 have wN:IntKind.i64.wrap (-(pl:Int))= -(pl:Int):=IntWalk.i64_in _ (by omega)
 have yb0:=below_alloc w (.cells #[.bool false,.slice none 0 0,.int .i64 0] 24)
 have zR:QL 24 (w.alloc (.cells #[.bool false,.slice none 0 0,.int .i64 0] 24)) w.heap.size false (.slice none 0 0) 0:=QL.made rfl
 clear hT hC
 go_enter Tryd.func22,Tryd.ntmps22
 go_upto_region 1 with fail
 go_loopw [1] (fun s1 wr=> ∃p:Nat,s1=.int .i64 (p:Int)∧20≤p∧p≤34359738368∧Below w.heap.size w wr∧QL 24 wr w.heap.size false (.slice none 0 0) 0) (fun s1 _=>34359738369-(intOf s1).toNat)
 case atStart=>exact ⟨p0,rfl,hp0,by omega,yb0,zR⟩
 case round=>
 obtain ⟨p,rfl,hp1,hp2,yr,zr⟩:=hrel
 clear zR yb0
 have HC1:=hid (fun w' hb=>HC.out p w' hp1 hp2 hb)
 have HFN:=hid (fun w=>hfn (p:Int) w)
 have hfn1:=hfn (p:Int)
 go_upto_region 3 with ((with_reducible refine (HC1.out _ yr).mono ?_);rintro en w1 ⟨D,E,hgd,v1,u1,rfl,⟨a1,c1,rfl,n1⟩,⟨a2,c2,rfl,n2⟩,hb1⟩)
 obtain ⟨fD,fE⟩:=hF p D E hgd
 have hEnd:=hid (hE p D E hgd)
 have MD:=hid (fun v w h t=>MU.out v D w h fD t)
 have ME:=hid (fun v w h t=>MU.out v E w h fE t)
 clear fD fE hF hE MU hfn1
 have hgd1:=hid hgd
 have k7:w.heap.size<w1.heap.size:=(zr.below hb1).lt
 obtain ⟨g7,hg7⟩: ∃g,g=w1.heap.size:=⟨_,rfl⟩
 refine wp_wld9 (fun WW=>Below w.heap.size w WW∧QL 24 WW w.heap.size false (.slice none 0 0) 0∧QL 24 WW w1.heap.size (decide (D.1<0)) (.slice a1 (limbs D.1.natAbs).length c1) D.2∧QL 24 WW (w1.heap.size+1) (decide (E.1<0)) (.slice a2 (limbs E.1.natAbs).length c2) E.2∧Ns .u32 WW a1 c1 (limbs D.1.natAbs)∧Ns .u32 WW a2 c2 (limbs E.1.natAbs)) ⟨below_trans (below_trans (below_trans yr hb1) (below_alloc _ _)) (below_alloc _ _),((zr.below hb1).alloc _).alloc _,(QL.made rfl).alloc _,QL.made (by simp),(n1.below (below_alloc _ _)).below (below_alloc _ _),(n2.below (below_alloc _ _)).below (below_alloc _ _)⟩ ?_
 rw [←hg7] at k7 ⊢
 clear hb1 zr yr n1 n2 hg7 HC1
 intro W2 ⟨yr,zr,q7,q8,n1,n2⟩
 have VD1:VD W2 D (.agg #[.bool (decide (D.1<0)),.slice a1 (limbs D.1.natAbs).length c1,.int .i64 D.2]):=⟨a1,c1,rfl,n1⟩
 obtain ⟨⟨i0,i1,-⟩,i2,-⟩:=id q7
 have e1:mplD D (-(pl:Int)) 2=mplD D (-(pl:Int)) 2:=rfl
 obtain ⟨MA,hMA⟩: ∃M,M=mplD D (-(pl:Int)) 2:=⟨_,rfl⟩
 obtain ⟨MB,hMB⟩: ∃M,M=mplD E (-(pl:Int)) 2:=⟨_,rfl⟩
 rw [←hMA] at MD hEnd
 rw [←hMB] at ME hEnd
 have HMA:=hid hMA
 have HMB:=hid hMB
 generalize mplC D (-(pl:Int))=cA at *
 generalize mplC E (-(pl:Int))=cB at *
 clear hMA hMB e1
 go_upto_region 4 with (go_at_call 51;(with_reducible refine (MD.out _ _ VD1 (HT.out.below yr)).mono ?_);rintro en w3 ⟨v3,rfl,⟨a3,c3,rfl,n3⟩,hb3⟩)
 refine wp_wld9 (fun WW=>Below w.heap.size w WW∧QL 24 WW w.heap.size false (.slice none 0 0) 0∧QL 24 WW (g7+1) (decide (E.1<0)) (.slice a2 (limbs E.1.natAbs).length c2) E.2∧Ns .u32 WW a2 c2 (limbs E.1.natAbs)∧QL 24 WW w3.heap.size (decide (MA.1<0)) (.slice a3 (limbs MA.1.natAbs).length c3) MA.2∧Ns .u32 WW a3 c3 (limbs MA.1.natAbs)) ⟨below_trans (below_trans yr hb3) (below_alloc _ _),(zr.below hb3).alloc _,(q8.below hb3).alloc _,(n2.below hb3).below (below_alloc _ _),QL.made rfl,n3.below (below_alloc _ _)⟩ ?_
 have k9:g7+1<w3.heap.size:=(q8.below hb3).lt
 obtain ⟨g9,hg9⟩: ∃g,g=w3.heap.size:=⟨_,rfl⟩
 rw [←hg9] at k9 ⊢
 clear hb3 zr yr n1 n2 n3 hg9 q7 q8 VD1 i0 i1 i2 MD
 intro W3 ⟨yr,zr,q8,n2,q9,n3⟩
 have VD1:VD W3 E (.agg #[.bool (decide (E.1<0)),.slice a2 (limbs E.1.natAbs).length c2,.int .i64 E.2]):=⟨a2,c2,rfl,n2⟩
 obtain ⟨⟨i0,i1,-⟩,i2,-⟩:=id q8
 go_upto_region 5 with (go_at_call 51;(with_reducible refine (ME.out _ _ VD1 (HT.out.below yr)).mono ?_);rintro en w4 ⟨v4,rfl,⟨a4,c4,rfl,n4⟩,hb4⟩)
 refine wp_wld9 (fun WW=>Below w.heap.size w WW∧QL 24 WW w.heap.size false (.slice none 0 0) 0∧QL 24 WW g9 (decide (MA.1<0)) (.slice a3 (limbs MA.1.natAbs).length c3) MA.2∧Ns .u32 WW a3 c3 (limbs MA.1.natAbs)∧QL 24 WW w4.heap.size (decide (MB.1<0)) (.slice a4 (limbs MB.1.natAbs).length c4) MB.2∧Ns .u32 WW a4 c4 (limbs MB.1.natAbs)) ⟨below_trans (below_trans yr hb4) (below_alloc _ _),(zr.below hb4).alloc _,(q9.below hb4).alloc _,(n3.below hb4).below (below_alloc _ _),QL.made rfl,n4.below (below_alloc _ _)⟩ ?_
 obtain ⟨g11,hg11⟩: ∃g,g=w4.heap.size:=⟨_,rfl⟩
 rw [←hg11]
 clear hb4 zr yr n2 n3 n4 hg11 q8 q9 VD1 i0 i1 i2 ME
 intro W4 ⟨yr,zr,q9,n3,q11,n4⟩
 obtain ⟨⟨i0,i1,-⟩,i2,-⟩:=id q9
 obtain ⟨⟨m0,m1,-⟩,m2,-⟩:=id q11
 have SA1:=hid (SA.out MA MB a3 c3 a4 c4 W4 n3 n4)
 clear SA
 by_cases hEq:MA=MB
 ·have HR:=hid hEq
  rw [decide_eq_true hEq] at SA1
  clear hEq
  go_upto_region 6 with (go_at_call 40;(with_reducible refine SA1.out.mono ?_);rintro en w5 ⟨rfl,hb5⟩)
  have q9':=q9.below hb5
  have zr':=zr.below hb5
  obtain ⟨⟨ii0,ii1,-⟩,ii2,-⟩:=id q9'
  obtain ⟨⟨k0,k1,f0,f1,hs2⟩,k2,f2⟩:=id zr'
  go_wp2_with fail
  refine bodyPost_ret (by simp [results,Tryd.results22,go_sem,k0,k1,k2];try rfl) rfl ?_
  refine ⟨p,D,E,hgd1.out,by rw [←HMA.out,←HMB.out];exact HR.out,?_⟩
  rw [←HMA.out]
  exact ⟨_,rfl,⟨a3,c3,rfl,(n3.below hb5).set3 zr' (by intro x h;cases h) _ _ _⟩,Go.Ulp.Below.put3 (below_trans yr hb5) (by omega) _ _ _⟩
 ·have hpn:p<17179869184:=by
   refine Nat.lt_of_not_le fun h=>hEq (hEnd.out h)
  have wP:IntKind.i64.wrap ((p:Int)*2)=((p*2:Nat):Int):=by rw [IntWalk.i64_in _ (by omega)];omega
  rw [decide_eq_false hEq] at SA1
  go_wp2_with (go_at_call 40;(with_reducible refine SA1.out.mono ?_);rintro en w5 ⟨rfl,hb5⟩)
  go_roundw
  case rel=>exact ⟨p*2,rfl,by omega,by omega,below_trans yr hb5,zr.below hb5⟩
  case measure=>simp [intOf];omega
end Go.Proofs.YtehhegbkahnhgaaDoor
namespace Go.Ulp
open Go.RowKit
theorem nrm_inj9 {x y e:Int} (h:nrm x e=nrm y e):x=y:=by
 obtain ⟨k,a1,a2⟩:=nrm_rep x e
 obtain ⟨l,b1,b2⟩:=nrm_rep y e
 by_cases hx:x=0
 ·have h3:(nrm y e).1=0:=by rw [←h,hx];rfl
  rw [hx,(nrm_zero_iff _ _).1 h3]
 ·have hy:y≠0:=fun hy=>hx ((nrm_zero_iff x e).1 (by rw [h,hy];rfl))
  have a2:=a2 hx
  have b2:=b2 hy
  rw [h] at a1 a2
  have:k=l:=by omega
  rw [this] at a1
  exact a1.trans b1.symm
theorem mpl_floor (x:Int) (p pl:Nat):mplD (nrm x (-(p:Int))) (-(pl:Int)) 2=nrm (x*pw pl/pw p) (-(pl:Int)):=by
 have hX:nrm (x*pw pl) (-(p:Int))=shD (nrm x (-(p:Int))) (-(-(pl:Int))):=by
  rw [nrm_scale,←nrm_shift];congr 1;omega
 obtain ⟨h1,h2⟩:=cut_plain (nrm x (-(p:Int))) (x*pw pl) (-(pl:Int)) p 2 (by omega) (by omega) (nrm_isN _ _) hX
 have hp:=pw_pos p
 by_cases h:x*pw pl%pw p=0
 ·have hk:=h1.1 h
  unfold mplD
  rw [if_pos hk,nrm_nrm]
  have e:x*pw pl=x*pw pl/pw p*pw p:=by have:=Int.mul_ediv_add_emod (x*pw pl) (pw p);rw [h,Int.add_zero,Int.mul_comm] at this;exact this.symm
  have a:nrm (x*pw pl) (-(p:Int)+ -(pl:Int))=nrm x (-(p:Int)):=by rw [nrm_scale];congr 1;omega
  rw [←a,e,nrm_scale,←e];congr 1;omega
 ·rw [←(h2 h).1]
  congr 1
  unfold ctOut ctLow ctUp upR
  simp
theorem cutN_le9 (neg:Bool) (M:Nat) (j mode:Int) (h:0<j):cutN neg M j mode≤M+1:=by
 have:=Nat.div_le_self M (2^j.toNat)
 unfold cutN
 rw [if_neg (by omega)]
 split<;>omega
theorem FL_nrm (x:Int) (p pl A:Nat) (hx:x.natAbs≤2^A) (hA:A≤68719476736) (hp:p≤68719476736) (hpl:pl≤1300):FL (nrm x (-(p:Int))) pl:=by
 have hx2:x.natAbs<2^(A+1):=by rw [Nat.pow_succ];have:=Nat.two_pow_pos A;omega
 obtain ⟨h1,h2⟩:=nrm_bd x (-(p:Int)) (A+1) hx2
 refine ⟨len_le (Nat.le_of_lt h1) (by omega),by omega,?_⟩
 rcases Int.lt_or_le 0 (-(pl:Int)-(nrm x (-(p:Int))).2) with hj|hj
 ·refine Nat.le_trans (limbs_len_mono (cutN_le9 _ _ _ _ hj)) (len_le (k:=A+2) ?_ (by omega))
  have e:2^(A+2)=2^(A+1)*2:=Nat.pow_succ _ _
  have:=Nat.two_pow_pos (A+1)
  omega
 ·unfold cutN
  rw [if_pos hj]
  obtain ⟨k,hk1,hk2⟩:=nrm_rep x (-(p:Int))
  by_cases h0:x=0
  ·rw [h0,nrm_zero]
   show (limbs (0*_)).length≤_
   rw [Nat.zero_mul];decide
  have hk3:=hk2 h0
  have e:x.natAbs=(nrm x (-(p:Int))).1.natAbs*2^k:=by rw [←natAbs_mul_pw,←hk1]
  refine len_le (k:=A+pl) (Nat.le_trans (Nat.mul_le_mul_left _ (Nat.pow_le_pow_right (by omega) (show _≤k+pl by omega))) ?_) (by omega)
  rw [Nat.pow_add,←Nat.mul_assoc,←e,Nat.pow_add]
  exact Nat.mul_le_mul_right _ hx
def LnFl (m:Nat) (e:Int) (pl:Nat) (z:Int):Prop:= ∃D W x,0<D∧LnOK m e D W x∧x.1*((2^pl:Nat):Int)/(D:Int)=z∧x.2*((2^pl:Nat):Int)/(D:Int)=z
theorem LnFl.uniq {m:Nat} {e:Int} {pl:Nat} {z y:Int} (h:LnFl m e pl z) (k:LnFl m e pl y):z=y:=by
 obtain ⟨D,W,x,h1,h2,h3,h4⟩:=h
 obtain ⟨D',W',x',k1,k2,k3,k4⟩:=k
 exact h2.uniq k2 h1 k1 pl z y h3 h4 k3 k4
def GoodL (m:Nat) (e:Int) (p:Nat) (D E:Dy):Prop:=20≤p∧p≤34359738368∧ ∃x,LnOK m e (2^p) 100 x∧x.1.natAbs≤2^(p+60)∧x.2.natAbs≤2^(p+60)∧D=nrm x.1 (-(p:Int))∧E=nrm x.2 (-(p:Int))
theorem mpl_cast (x:Int) (p pl:Nat):mplD (nrm x (-(p:Int))) (-(pl:Int)) 2=nrm (x*((2^pl:Nat):Int)/((2^p:Nat):Int)) (-(pl:Int)):=by
 rw [mpl_floor,pw_nat,pw_nat]
theorem log_bnd (m:Nat) (e:Int) (pl:Nat) (h0:0<m) (hm:m<2^1280) (he: -3000≤e∧e≤3000) (h1:dyQ m e≠1) (hpl:pl≤1300):BndOK (GoodL m e) pl:=by
 constructor
 ·rintro p D E ⟨hp1,hp2,x,hx,a,b,rfl,rfl⟩
  exact ⟨FL_nrm _ p pl (p+60) a (by omega) (by omega) hpl,FL_nrm _ p pl (p+60) b (by omega) (by omega) hpl⟩
 ·rintro p D E ⟨hp1,hp2,x,hx,a,b,rfl,rfl⟩ h34
  have k:100+(GG+4300)≤p:=by unfold GG;omega
  have q:=hx.ends (Nat.two_pow_pos p) h0 hm he h1 pl (GG+4300) hpl rfl (Nat.pow_le_pow_right (by omega) k)
  rw [mpl_cast,mpl_cast,q]
theorem log_fl (m:Nat) (e:Int) (pl p:Nat) (D E:Dy) (h:GoodL m e p D E) (hE:mplD D (-(pl:Int)) 2=mplD E (-(pl:Int)) 2): ∃z:Int,LnFl m e pl z∧mplD D (-(pl:Int)) 2=nrm z (-(pl:Int)):=by
 obtain ⟨hp1,hp2,x,hx,a,b,rfl,rfl⟩:=h
 rw [mpl_cast,mpl_cast] at hE
 rw [mpl_cast]
 have hz:=nrm_inj9 hE
 exact ⟨_,⟨2^p,100,x,Nat.two_pow_pos p,hx,rfl,hz.symm⟩,rfl⟩
theorem dyQ_one (m:Nat) (e:Int) (hm:m%2=1) (h:dyQ m e=1):m=1∧e=0:=by
 have a:=dyQ_eq m e
 rw [h,Rat.mul_one] at a
 have b:2^(-e).toNat=m*2^e.toNat:=by
  apply Rat.natCast_inj.1
  rw [cast_mul,two_cast,two_cast]
  exact a
 rcases Int.lt_or_le e 0 with c|c
 ·have d:e.toNat=0:=by omega
  obtain ⟨k,hk⟩: ∃k,(-e).toNat=k+1:=⟨(-e).toNat-1,by omega⟩
  rw [d,hk,Nat.pow_succ,Nat.pow_zero] at b
  omega
 ·have d:(-e).toNat=0:=by omega
  rw [d,Nat.pow_zero] at b
  have f:=Nat.eq_one_of_mul_eq_one_right b.symm
  have g:=Nat.eq_one_of_mul_eq_one_left b.symm
  refine ⟨f,?_⟩
  rcases Nat.eq_zero_or_pos e.toNat with k|k
  ·omega
  ·obtain ⟨j,hj⟩: ∃j,e.toNat=j+1:=⟨e.toNat-1,by omega⟩
   rw [hj,Nat.pow_succ] at g
   omega
theorem goodL_of (m:Nat) (e:Int) (p kA kT:Nat) (hm:0<m) (hmb:m<2^1280) (he: -3000≤e∧e≤3000) (hA:AtOK (lgN m) (m+2^lgS m) p kA) (hT:AtOK 1 3 p kT):
 GoodL m e p (nrm (addI (sgP (atP (frB (lgN m) (m+2^lgS m) (2^p)) p kA) (lgC m)) (sgP (mlP (e+lgS m).natAbs (atP (frB 1 3 (2^p)) p kT)) (decide (e+lgS m<0)))).1 (-(p:Int))) (nrm (addI (sgP (atP (frB (lgN m) (m+2^lgS m) (2^p)) p kA) (lgC m)) (sgP (mlP (e+lgS m).natAbs (atP (frB 1 3 (2^p)) p kT)) (decide (e+lgS m<0)))).2 (-(p:Int))):=by
 have p0:=hA.p0
 have p1:=hA.p1
 have hbl:bl m≤1280:=(bl_le m 1280).2 hmb
 have hs:lgS m≤1280:=by unfold lgS;split<;>omega
 have hn:(e+(lgS m:Int)).natAbs≤8000:=by omega
 have kk:2^36=68719476736:=by decide
 have k1:=hA.k1
 have k2:=hT.k1
 refine ⟨p0,p1,_,prog_ok m e (lgS m) (lgC m) (lgN m) (m+2^lgS m) p kA kT hm (lg_ok m hm) rfl (by omega) hn hA.e1 hT.e1 (by omega) (by omega),?_,?_,rfl,rfl⟩
 all_goals
  have ra:=hA.res
  have rt:=hT.res
  generalize atP (frB (lgN m) (m+2^lgS m) (2^p)) p kA=A at *
  generalize atP (frB 1 3 (2^p)) p kT=B at *
  generalize (e+(lgS m:Int)).natAbs=M at *
  generalize decide (e+(lgS m:Int)<0)=c2 at *
  have h40:2^(p+40)<2^(p+59):=Nat.pow_lt_pow_right (by omega) (by omega)
  have h13: ∀x,x≤2^(p+40)→x*M<2^(p+59):=fun x hx=>Nat.lt_of_le_of_lt (Nat.mul_le_mul hx (show M≤2^13 by omega)) (by rw [←Nat.pow_add];exact Nat.pow_lt_pow_right (by omega) (by omega))
  have sA:=sgP_abs A (lgC m) _ (Nat.lt_of_le_of_lt ra.1 h40) (Nat.lt_of_le_of_lt ra.2 h40)
  have sT:=sgP_abs (mlP M B) c2 _ (h13 _ rt.1) (h13 _ rt.2)
  have e60:2^(p+60)=2^(p+59)*2:=Nat.pow_succ _ _
  unfold addI
  simp only
  omega
end Go.Ulp
namespace Go.Proofs.YtehhegbkahnhgaaDoor
open Go.RowKit Go.Ulp
set_option maxHeartbeats 4000000
set_option maxRecDepth 100000
theorem logFn_any (m:Nat) (e:Int) (ng:Bool) (p g:Nat) (a:Option Addr) (c:Nat) (w:World) (zD:QL 24 w g ng (.slice a (limbs m).length c) e) (h0:Ns .u32 w a c (limbs m)) (hm:0<m) (hmb:m<2^1280) (he: -3000≤e∧e≤3000) (hp0:20≤p) (hp:p≤34359738368) (hT:Tab 0 w):
 Calls Tryd.prog 41 #[.int .i64 (p:Int),.pointer (some ⟨g,0,none⟩)] w fun en w'=> ∃D E,GoodL m e p D E∧RetVD2 w D E en w':=by
 have EB2:=hid (show ∀w,Ns .u32 w a c (limbs m)→Tab 0 w→Calls Tryd.prog 42 #[.agg #[.bool ng,.slice a (limbs m).length c,.int .i64 e],.int .i64 (p:Int)] w (fun en w'=> ∃D E,GoodL m e p D E∧RetVD2 w D E en w') from fun w h t=>by
  have hl:=lg_ok m hm
  obtain ⟨z,hz⟩: ∃z,z=1280:=⟨_,rfl⟩
  have hbl:bl m≤1280:=(bl_le m 1280).2 hmb
  have hs:lgS m≤z:=by rw [hz];unfold lgS;split<;>omega
  have hmz:m<2^z:=by rw [hz];exact hmb
  have h2:2^lgS m≤2^z:=Nat.pow_le_pow_right (by omega) hs
  have h3: ∀y x,y=9000→x≤2^z*2→x≤2^y:=fun y x hy h=>Nat.le_trans h (by rw [←Nat.pow_succ];exact Nat.pow_le_pow_right (by omega) (by omega))
  have hh:2*lgN m≤m+2^lgS m:=by split at hl<;>omega
  have h5:lgN m≤2^z*2:=by split at hl<;>omega
  have h6:=Nat.two_pow_pos (lgS m)
  have h4:4≤2^z:=Nat.le_trans (show 4≤2^2 by decide) (Nat.pow_le_pow_right (by omega) (by omega))
  obtain ⟨kA,hA⟩:=atOK_ex (lgN m) (m+2^lgS m) p (by omega) hh (h3 9000 _ rfl h5) (h3 9000 _ rfl (by omega)) hp0 hp
  obtain ⟨kT,hT3⟩:=atOK_ex 1 3 p (by omega) (by omega) (h3 9000 _ rfl (by omega)) (h3 9000 _ rfl (by omega)) hp0 hp
  exact (logBounds_any m e p kA kT ng a c w h hm hmb he hA hT3 t).mono (fun en w' h=>⟨_,_,goodL_of m e p kA kT hm hmb he hA hT3,h⟩))
 obtain ⟨W0,hW0⟩: ∃W:World,W=(w.alloc (.cells #[.bool false,.slice none 0 0,.int .i64 0] 24)).alloc (.cells #[.bool false,.slice none 0 0,.int .i64 0] 24):=⟨_,rfl⟩
 have yb0:Below w.heap.size w W0:=by rw [hW0];(repeat' first|(with_reducible first|assumption|apply bR|apply bA|apply bN|apply bD|apply bL|apply bS)|refine bT ?_ (by assumption)|go_size)
 have zA:=zD.below yb0
 have zR:QL 24 W0 w.heap.size false (.slice none 0 0) 0:=by rw [hW0];exact (QL.made rfl).alloc _
 have zS:QL 24 W0 (w.heap.size+1) false (.slice none 0 0) 0:=by rw [hW0];exact QL.made (by simp)
 have n0:=h0.below yb0
 have t0:=hT.below yb0
 clear h0 hT zD hm hmb he
 go_enter Tryd.func41,Tryd.ntmps41
 go_upto_region 1 with fail
 rw [←hW0]
 clear hW0
 obtain ⟨⟨i0,i1,-⟩,i2,-⟩:=id zA
 go_wp2_with (go_at_call 42;(with_reducible refine (EB2.out _ n0 t0).mono ?_);rintro en w3 ⟨D,E,hgd,v3,v4,rfl,⟨a3,c3,rfl,hN3⟩,⟨a4,c4,rfl,hN4⟩,HB⟩;have zR2:=zR.below HB;have zS2:=zS.below HB;have yb2:=below_trans yb0 HB;obtain ⟨⟨k0,k1,f0,f1,hs2⟩,k2,f2⟩:=id zR2;obtain ⟨⟨m0,m1,g0,g1,hs3⟩,m2,g2⟩:=id zS2)
 refine bodyPost_ret (by simp [results,Tryd.results41,go_sem,k0,k1,k2,m0,m1,m2];try rfl) rfl ?_
 have zS3:=zS2.far3 (b:=w.heap.size) (by omega) (.bool (decide (D.1<0))) (.slice a3 (limbs D.1.natAbs).length c3) (.int .i64 D.2)
 exact ⟨D,E,hgd,_,_,rfl,⟨a3,c3,rfl,(hN3.set3 zR2 (by intro x h;cases h) _ _ _).set3 zS3 (by intro x h;cases h) _ _ _⟩,⟨a4,c4,rfl,(hN4.set3 zR2 (by intro x h;cases h) _ _ _).set3 zS3 (by intro x h;cases h) _ _ _⟩,Go.Ulp.Below.put3 (Go.Ulp.Below.put3 yb2 (by omega) _ _ _) (by omega) _ _ _⟩
end Go.Proofs.YtehhegbkahnhgaaDoor
