/- ExpoExps: what the proof leans on, part 4 (Step). -/
import Derived.Deep.RegionWith
import Derived.Maps.AppendAt
import Derived.Deep.RegionLaw
import Derived.Test.YtehhegbkahnhgaaGreatDoorKExpoExps3
set_option linter.unusedVariables false
set_option linter.unusedSimpArgs false
namespace Go.Ulp
open Go.RowKit
theorem bcellB {B:Nat} {W w1:World} (hb:Below B W w1):(∀b o,b<B→w1.cell? ⟨b,o,none⟩=W.cell? ⟨b,o,none⟩)∧(∀b o,b<B→w1.frozen? ⟨b,o,none⟩=W.frozen? ⟨b,o,none⟩):=
 ⟨fun b o h=>hb.cell (p:=⟨b,o,none⟩) h,fun b o h=>hb.frozen (p:=⟨b,o,none⟩) h⟩
theorem dec_add_step {q c L M k x y d c':Nat} (h:q+10000^k*c=L+M) (hd:d+10000*c'=c+x+y):(q+10000^k*d)+10000^(k+1)*c'=(L+10000^k*x)+(M+10000^k*y):=by
 have e:=congrArg (fun z=>10000^k*z) hd
 simp only [Nat.mul_add] at e
 rw [Nat.pow_succ,Nat.mul_assoc];omega
theorem lb_dec (L:List Nat) (h:Dec L) (k:Nat):L.getD k 0<10000:=h.getD (by omega) k
theorem take_step (L:List Nat) (k:Nat) (B:Nat):val B (L.take (k+1))=val B (L.take k)+B^k*L.getD k 0:=by
 by_cases hk:k<L.length
 ·exact val_take_succ B L k hk
 ·rw [List.take_of_length_le (by omega),List.take_of_length_le (by omega),getD_out _ _ (by omega)];simp
end Go.Ulp
namespace Go.Proofs.YtehhegbkahnhgaaGreatDoor
open Go.RowKit Go.Ulp
set_option maxHeartbeats 1000000
set_option maxRecDepth 100000
theorem zadd_same (a0 a1:Option Addr) (c0 c1:Nat) (x y:Int) (w:World) (h0:Nz 3 w a0 c0 (zl x)) (h1:Nz 3 w a1 c1 (zl y)) (hl0:(zl x).length≤4294967296) (hl1:(zl y).length≤4294967296) (hs:zneg x=zneg y):
 Calls Tryz.prog 76 #[.agg #[.bool (zneg x),.slice a0 (zl x).length c0],.agg #[.bool (zneg y),.slice a1 (zl y).length c1]] w fun e w'=>RetZF 3 w (x+y) e w':=by
 have hfin:=hid (show zof (zneg x) (x.natAbs+y.natAbs)=x+y by
  unfold zneg at hs;unfold zof zneg;by_cases h:x<0<;>by_cases h':y<0<;>simp [h,h'] at hs ⊢ <;>omega)
 have n0:=h0.ns
 have n1:=h1.ns
 obtain ⟨na,hna⟩: ∃na,na=zneg x:=⟨_,rfl⟩
 rw [←hs,←hna]
 rw [←hna] at hfin
 clear hs hna
 go_enter Tryz.func76,Tryz.ntmps76
 go_wp2_with fail
 go_loopw [6,7] (fun c i wr=> ∃(k cc:Nat) (Q:List Nat) (v:Value),i=.int .i64 k∧c=.int .i64 cc∧cc≤1∧(k≤(zl x).length∨k≤(zl y).length∨(cc=0∧k≤(zl x).length+(zl y).length+1))∧Q.length=k∧Dec Q∧dval Q+10000^k*cc=dval ((zl x).take k)+dval ((zl y).take k)∧Own (w.heap.size+1+1+1+1) 3 .i64 wr v Q∧ZL 47 wr w.heap.size na (.slice a0 (zl x).length c0)∧ZL 47 wr (w.heap.size+1) na (.slice a1 (zl y).length c1)∧ZL 47 wr (w.heap.size+1+1) false (.slice none 0 0)∧ZL 47 wr (w.heap.size+1+1+1) na v∧Below w.heap.size w wr) (fun _ i _=>(zl x).length+(zl y).length+2-(intOf i).toNat)
 case atStart=>
  exact ⟨0,0,[],_,rfl,rfl,by omega,by omega,rfl,AllLt.nil,by simp [dval,val],Own.nil,(((ZL.made rfl).alloc _).alloc _).alloc _,((ZL.made (by simp)).alloc _).alloc _,(ZL.made (by simp)).alloc _,ZL.made (by simp),by go_grown⟩
 case round=>
  obtain ⟨k,cc,Q,v,rfl,rfl,hcc,hk,hQ,lQ,hv,hown,zA,zB,zR,zO,hb⟩:=hrel
  have HQ:=hid hQ
  have HV:=hid hv
  clear hQ hv
  have hsz:=zO.lt
  obtain ⟨kA0,kA1,-,-,-⟩:=id zA
  obtain ⟨kB0,kB1,-,-,-⟩:=id zB
  obtain ⟨kO0,kO1,fO0,fO1,-⟩:=id zO
  by_cases hka:k<(zl x).length
  ·obtain ⟨b0,o0,rfl,hc0⟩:=n0.2.2 (by omega)
   obtain ⟨dx,hdx⟩: ∃z,z=(zl x).getD k 0:=⟨_,rfl⟩
   have hdx1:dx<10000:=by rw [hdx];exact lb_dec _ (zl_dec _) k
   have hcellX:wr.cell? ⟨b0,o0+k,none⟩=some (.int .i64 (dx:Int)):=by
    have h1:=hc0 k (by omega)
    have h2:=hb.cell (p:=⟨b0,o0+k,none⟩) (World.block_lt_of_cell? w _ h1)
    rw [h2,h1,hdx];rfl
   clear hc0
   by_cases hkb:k<(zl y).length
   ·obtain ⟨b1,o1,rfl,hc1⟩:=n1.2.2 (by omega)
    obtain ⟨dy,hdy⟩: ∃z,z=(zl y).getD k 0:=⟨_,rfl⟩
    have hdy1:dy<10000:=by rw [hdy];exact lb_dec _ (zl_dec _) k
    have hcellY:wr.cell? ⟨b1,o1+k,none⟩=some (.int .i64 (dy:Int)):=by
     have h1:=hc1 k (by omega)
     have h2:=hb.cell (p:=⟨b1,o1+k,none⟩) (World.block_lt_of_cell? w _ h1)
     rw [h2,h1,hdy];rfl
    clear hc1
    have HX:=hid hdx
    have HY:=hid hdy
    clear hdx hdy
    by_cases hsum:cc+dx+dy<10000
    ·go_wp2_with (at_builtin;refine wpList_push ei_int (by omega) rfl _ _ rfl (w.heap.size+1+1+1+1) Q (cc+dx+dy) _ rfl (Own.alloc hown _) ⟨wr.heap.size,0,none⟩ rfl (cell_push _ _ _ _ _ (by omega)) (by rw [HQ.out];omega) (by simp;omega) ?_;intro v1 w1 hown1 hb1;obtain ⟨ao1,nn1,cap1,rfl⟩:=hown1.slice;obtain ⟨hc1,hf1⟩:=bcellB hb1)
     clear hsum
     go_roundw
     case rel=>exact ⟨k+1,0,Q++ [cc+dx+dy],.slice ao1 nn1 cap1,by go_num,by go_num,by omega,by omega,by rw [List.length_append,HQ.out];rfl,AllLt.append.2 ⟨lQ,AllLt.cons.2 ⟨by omega,AllLt.nil⟩⟩,by
      have:=dec_add_step (x:=dx) (y:=dy) (d:=cc+dx+dy) (c':=0) HV.out (by omega)
      unfold dval at *
      rw [val_snoc,HQ.out,take_step,take_step,←HX.out,←HY.out];exact this,
      hown1.set_other _ (by simp) _,((zA.alloc _).belowB hb1 (by omega)).far _ _ (by simp;omega),((zB.alloc _).belowB hb1 (by omega)).far _ _ (by simp),((zR.alloc _).belowB hb1 (by omega)).far _ _ (by simp),((zO.alloc _).belowB hb1 (by omega)).set1 _,
      ((hb.trans ((below_alloc wr _).mono hb.size)).trans (hb1.mono (by omega))).setCell (by simp;omega) _⟩
     case measure=>simp [intOf];omega
    ·go_wp2_with (at_builtin;refine wpList_push ei_int (by omega) rfl _ _ rfl (w.heap.size+1+1+1+1) Q (cc+dx+dy-10000) _ rfl (Own.alloc hown _) ⟨wr.heap.size,0,none⟩ rfl (cell_push _ _ _ _ _ (by omega)) (by rw [HQ.out];omega) (by simp;omega) ?_;intro v1 w1 hown1 hb1;obtain ⟨ao1,nn1,cap1,rfl⟩:=hown1.slice;obtain ⟨hc1,hf1⟩:=bcellB hb1)
     clear hsum
     go_roundw
     case rel=>exact ⟨k+1,1,Q++ [cc+dx+dy-10000],.slice ao1 nn1 cap1,by go_num,by go_num,by omega,by omega,by rw [List.length_append,HQ.out];rfl,AllLt.append.2 ⟨lQ,AllLt.cons.2 ⟨by omega,AllLt.nil⟩⟩,by
      have:=dec_add_step (x:=dx) (y:=dy) (d:=cc+dx+dy-10000) (c':=1) HV.out (by omega)
      unfold dval at *
      rw [val_snoc,HQ.out,take_step,take_step,←HX.out,←HY.out];exact this,
      hown1.set_other _ (by simp) _,((zA.alloc _).belowB hb1 (by omega)).far _ _ (by simp;omega),((zB.alloc _).belowB hb1 (by omega)).far _ _ (by simp),((zR.alloc _).belowB hb1 (by omega)).far _ _ (by simp),((zO.alloc _).belowB hb1 (by omega)).set1 _,
      ((hb.trans ((below_alloc wr _).mono hb.size)).trans (hb1.mono (by omega))).setCell (by simp;omega) _⟩
     case measure=>simp [intOf];omega
   ·have hdy:0=(zl y).getD k 0:=(getD_out _ _ (by omega)).symm
    have HX:=hid hdx
    have HY:=hid hdy
    clear hdx hdy
    by_cases hsum:cc+dx<10000
    ·go_wp2_with (at_builtin;refine wpList_push ei_int (by omega) rfl _ _ rfl (w.heap.size+1+1+1+1) Q (cc+dx) _ rfl (Own.alloc hown _) ⟨wr.heap.size,0,none⟩ rfl (cell_push _ _ _ _ _ (by omega)) (by rw [HQ.out];omega) (by simp;omega) ?_;intro v1 w1 hown1 hb1;obtain ⟨ao1,nn1,cap1,rfl⟩:=hown1.slice;obtain ⟨hc1,hf1⟩:=bcellB hb1)
     clear hsum
     go_roundw
     case rel=>exact ⟨k+1,0,Q++ [cc+dx],.slice ao1 nn1 cap1,by go_num,by go_num,by omega,by omega,by rw [List.length_append,HQ.out];rfl,AllLt.append.2 ⟨lQ,AllLt.cons.2 ⟨by omega,AllLt.nil⟩⟩,by
      have:=dec_add_step (x:=dx) (y:=0) (d:=cc+dx) (c':=0) HV.out (by omega)
      unfold dval at *
      rw [val_snoc,HQ.out,take_step,take_step,←HX.out,←HY.out];exact this,
      hown1.set_other _ (by simp) _,((zA.alloc _).belowB hb1 (by omega)).far _ _ (by simp;omega),((zB.alloc _).belowB hb1 (by omega)).far _ _ (by simp),((zR.alloc _).belowB hb1 (by omega)).far _ _ (by simp),((zO.alloc _).belowB hb1 (by omega)).set1 _,
      ((hb.trans ((below_alloc wr _).mono hb.size)).trans (hb1.mono (by omega))).setCell (by simp;omega) _⟩
     case measure=>simp [intOf];omega
    ·go_wp2_with (at_builtin;refine wpList_push ei_int (by omega) rfl _ _ rfl (w.heap.size+1+1+1+1) Q (cc+dx-10000) _ rfl (Own.alloc hown _) ⟨wr.heap.size,0,none⟩ rfl (cell_push _ _ _ _ _ (by omega)) (by rw [HQ.out];omega) (by simp;omega) ?_;intro v1 w1 hown1 hb1;obtain ⟨ao1,nn1,cap1,rfl⟩:=hown1.slice;obtain ⟨hc1,hf1⟩:=bcellB hb1)
     clear hsum
     go_roundw
     case rel=>exact ⟨k+1,1,Q++ [cc+dx-10000],.slice ao1 nn1 cap1,by go_num,by go_num,by omega,by omega,by rw [List.length_append,HQ.out];rfl,AllLt.append.2 ⟨lQ,AllLt.cons.2 ⟨by omega,AllLt.nil⟩⟩,by
      have:=dec_add_step (x:=dx) (y:=0) (d:=cc+dx-10000) (c':=1) HV.out (by omega)
      unfold dval at *
      rw [val_snoc,HQ.out,take_step,take_step,←HX.out,←HY.out];exact this,
      hown1.set_other _ (by simp) _,((zA.alloc _).belowB hb1 (by omega)).far _ _ (by simp;omega),((zB.alloc _).belowB hb1 (by omega)).far _ _ (by simp),((zR.alloc _).belowB hb1 (by omega)).far _ _ (by simp),((zO.alloc _).belowB hb1 (by omega)).set1 _,
      ((hb.trans ((below_alloc wr _).mono hb.size)).trans (hb1.mono (by omega))).setCell (by simp;omega) _⟩
     case measure=>simp [intOf];omega
  ·have hdx:0=(zl x).getD k 0:=(getD_out _ _ (by omega)).symm
   by_cases hkb:k<(zl y).length
   ·obtain ⟨b1,o1,rfl,hc1⟩:=n1.2.2 (by omega)
    obtain ⟨dy,hdy⟩: ∃z,z=(zl y).getD k 0:=⟨_,rfl⟩
    have hdy1:dy<10000:=by rw [hdy];exact lb_dec _ (zl_dec _) k
    have hcellY:wr.cell? ⟨b1,o1+k,none⟩=some (.int .i64 (dy:Int)):=by
     have h1:=hc1 k (by omega)
     have h2:=hb.cell (p:=⟨b1,o1+k,none⟩) (World.block_lt_of_cell? w _ h1)
     rw [h2,h1,hdy];rfl
    clear hc1
    have HX:=hid hdx
    have HY:=hid hdy
    clear hdx hdy
    by_cases hsum:cc+dy<10000
    ·go_wp2_with (at_builtin;refine wpList_push ei_int (by omega) rfl _ _ rfl (w.heap.size+1+1+1+1) Q (cc+dy) _ rfl (Own.alloc hown _) ⟨wr.heap.size,0,none⟩ rfl (cell_push _ _ _ _ _ (by omega)) (by rw [HQ.out];omega) (by simp;omega) ?_;intro v1 w1 hown1 hb1;obtain ⟨ao1,nn1,cap1,rfl⟩:=hown1.slice;obtain ⟨hc1,hf1⟩:=bcellB hb1)
     clear hsum
     go_roundw
     case rel=>exact ⟨k+1,0,Q++ [cc+dy],.slice ao1 nn1 cap1,by go_num,by go_num,by omega,by omega,by rw [List.length_append,HQ.out];rfl,AllLt.append.2 ⟨lQ,AllLt.cons.2 ⟨by omega,AllLt.nil⟩⟩,by
      have:=dec_add_step (x:=0) (y:=dy) (d:=cc+dy) (c':=0) HV.out (by omega)
      unfold dval at *
      rw [val_snoc,HQ.out,take_step,take_step,←HX.out,←HY.out];exact this,
      hown1.set_other _ (by simp) _,((zA.alloc _).belowB hb1 (by omega)).far _ _ (by simp;omega),((zB.alloc _).belowB hb1 (by omega)).far _ _ (by simp),((zR.alloc _).belowB hb1 (by omega)).far _ _ (by simp),((zO.alloc _).belowB hb1 (by omega)).set1 _,
      ((hb.trans ((below_alloc wr _).mono hb.size)).trans (hb1.mono (by omega))).setCell (by simp;omega) _⟩
     case measure=>simp [intOf];omega
    ·go_wp2_with (at_builtin;refine wpList_push ei_int (by omega) rfl _ _ rfl (w.heap.size+1+1+1+1) Q (cc+dy-10000) _ rfl (Own.alloc hown _) ⟨wr.heap.size,0,none⟩ rfl (cell_push _ _ _ _ _ (by omega)) (by rw [HQ.out];omega) (by simp;omega) ?_;intro v1 w1 hown1 hb1;obtain ⟨ao1,nn1,cap1,rfl⟩:=hown1.slice;obtain ⟨hc1,hf1⟩:=bcellB hb1)
     clear hsum
     go_roundw
     case rel=>exact ⟨k+1,1,Q++ [cc+dy-10000],.slice ao1 nn1 cap1,by go_num,by go_num,by omega,by omega,by rw [List.length_append,HQ.out];rfl,AllLt.append.2 ⟨lQ,AllLt.cons.2 ⟨by omega,AllLt.nil⟩⟩,by
      have:=dec_add_step (x:=0) (y:=dy) (d:=cc+dy-10000) (c':=1) HV.out (by omega)
      unfold dval at *
      rw [val_snoc,HQ.out,take_step,take_step,←HX.out,←HY.out];exact this,
      hown1.set_other _ (by simp) _,((zA.alloc _).belowB hb1 (by omega)).far _ _ (by simp;omega),((zB.alloc _).belowB hb1 (by omega)).far _ _ (by simp),((zR.alloc _).belowB hb1 (by omega)).far _ _ (by simp),((zO.alloc _).belowB hb1 (by omega)).set1 _,
      ((hb.trans ((below_alloc wr _).mono hb.size)).trans (hb1.mono (by omega))).setCell (by simp;omega) _⟩
     case measure=>simp [intOf];omega
   ·have hdy:0=(zl y).getD k 0:=(getD_out _ _ (by omega)).symm
    by_cases hc0:cc=0
    ·subst hc0
     have hval:zof na (dval Q)=x+y:=by
      have:=HV.out
      rw [List.take_of_length_le (by omega),List.take_of_length_le (by omega),dval_zl,dval_zl] at this
      rw [show dval Q=x.natAbs+y.natAbs by omega];exact hfin.out
     have HF:=hid hval
     clear hval hdx hdy
     obtain ⟨ao1,cap1,rfl,hN1⟩:=hown.nz
     go_wp2_with fail
     have hfr: ∀p,ao1=some p→w.heap.size≤p.block:=fun p hp=>Nat.le_trans (by omega) (hown.fresh p hp)
     refine (trim_at _ _ _ _ _ hN1 lQ).mono ?_
     rw [HF.out]
     rintro e w2 ⟨cap2,rfl,hN2,hb2⟩
     have zR2:=zR.below hb2
     have k0:=zR2.1
     have k1:=zR2.2.1
     have f0:=zR2.2.2.1
     have f1:=zR2.2.2.2.1
     have hs2:=zR2.2.2.2.2
     go_wp2_with fail
     refine bodyPost_ret (by simp [results,Tryz.results76,go_sem,k0,k1];try rfl) rfl ?_
     exact ⟨_,_,rfl,(hN2.setCell hs2 (by decide) _ _).setCell (hs2.setCell _ _) (by decide) _ _,((below_trans hb hb2).setCell (by simp;omega) _).setCell (by simp;omega) _,hfr⟩
    ·obtain rfl:cc=1:=by omega
     have HX:=hid hdx
     have HY:=hid hdy
     clear hdx hdy
     have hsum:True:=trivial
     go_wp2_with (at_builtin;refine wpList_push ei_int (by omega) rfl _ _ rfl (w.heap.size+1+1+1+1) Q 1 _ rfl (Own.alloc hown _) ⟨wr.heap.size,0,none⟩ rfl (cell_push _ _ _ _ _ (by omega)) (by rw [HQ.out];omega) (by simp;omega) ?_;intro v1 w1 hown1 hb1;obtain ⟨ao1,nn1,cap1,rfl⟩:=hown1.slice;obtain ⟨hc1,hf1⟩:=bcellB hb1)
     clear hsum
     go_roundw
     case rel=>exact ⟨k+1,0,Q++ [1],.slice ao1 nn1 cap1,by go_num,by go_num,by omega,by omega,by rw [List.length_append,HQ.out];rfl,AllLt.append.2 ⟨lQ,AllLt.cons.2 ⟨by omega,AllLt.nil⟩⟩,by
      have:=dec_add_step (x:=0) (y:=0) (d:=1) (c':=0) HV.out (by omega)
      unfold dval at *
      rw [val_snoc,HQ.out,take_step,take_step,←HX.out,←HY.out];exact this,
      hown1.set_other _ (by simp) _,((zA.alloc _).belowB hb1 (by omega)).far _ _ (by simp;omega),((zB.alloc _).belowB hb1 (by omega)).far _ _ (by simp),((zR.alloc _).belowB hb1 (by omega)).far _ _ (by simp),((zO.alloc _).belowB hb1 (by omega)).set1 _,
      ((hb.trans ((below_alloc wr _).mono hb.size)).trans (hb1.mono (by omega))).setCell (by simp;omega) _⟩
     case measure=>simp [intOf];omega
end Go.Proofs.YtehhegbkahnhgaaGreatDoor
namespace Go.Ulp
open Go.RowKit
theorem dec_sub_step {q b L M k x y d b':Nat} (h:L+10000^k*b=q+M) (hd:d+b+y=x+10000*b'):(L+10000^k*x)+10000^(k+1)*b'=(q+10000^k*d)+(M+10000^k*y):=by
 have e:=congrArg (fun z=>10000^k*z) hd
 simp only [Nat.mul_add] at e
 rw [Nat.pow_succ,Nat.mul_assoc];omega
theorem dec_sub_end {m n q b k:Nat} (h:m+10000^k*b=q+n) (hb:b≤1) (hq:q<10000^k) (hn:n≤m):q=m-n:=by
 have:b=0∨b=1:=by omega
 rcases this with rfl|rfl
 ·omega
 ·rw [Nat.mul_one] at h;omega
theorem dval_lt (L:List Nat) (h:Dec L):dval L<10000^L.length:=val_lt _ L h
theorem zl_len_le {x y:Int} (h:x.natAbs≤y.natAbs):(zl x).length≤(zl y).length:=digs_len_mono _ (by omega) h
end Go.Ulp
namespace Go.Proofs.YtehhegbkahnhgaaGreatDoor
open Go.RowKit Go.Ulp
set_option maxHeartbeats 1000000
set_option maxRecDepth 100000
theorem zadd_ge (a0 a1:Option Addr) (c0 c1:Nat) (x y:Int) (w:World) (h0:Nz 3 w a0 c0 (zl x)) (h1:Nz 3 w a1 c1 (zl y)) (hl0:(zl x).length≤4294967296) (hs:zneg x≠zneg y) (hge:y.natAbs≤x.natAbs) (hsumV:Int) (hsum:hsumV=x+y):
 Calls Tryz.prog 76 #[.agg #[.bool (zneg x),.slice a0 (zl x).length c0],.agg #[.bool (zneg y),.slice a1 (zl y).length c1]] w fun e w'=>RetZF 3 w hsumV e w':=by
 have hfin:=hid (show zof (zneg x) (x.natAbs-y.natAbs)=hsumV by
  rw [hsum];unfold zneg at hs;unfold zof zneg;by_cases h:x<0<;>by_cases h':y<0<;>simp [h,h'] at hs ⊢ <;>omega)
 have hlen:=zl_len_le hge
 have n0:=h0.ns
 have n1:=h1.ns
 have hcm:decide (cmpI (x.natAbs:Int) (y.natAbs:Int)<0)=false:=by unfold cmpI;simp;split<;>(try split)<;>omega
 have HLE:=hid hge
 have hnn:(zneg x=true∧zneg y=false)∨(zneg x=false∧zneg y=true):=by cases h:zneg x<;>cases h':zneg y<;>simp_all
 clear hs hge hsum
 rcases hnn with ⟨e1,e2⟩|⟨e1,e2⟩
 ·rw [e1] at hfin ⊢
  rw [e2]
  clear e1 e2
  go_enter Tryz.func76,Tryz.ntmps76
  go_wp2_with (go_at_call 113;refine (size_any _ _ _ _ _ _ _ (h0.below (by go_grown)).ns (h1.below (by go_grown)).ns).mono ?_;rintro e w' ⟨rfl,nq,rfl⟩)
  go_loopw [6,7] (fun c i wr=> ∃(k bb:Nat) (Q:List Nat) (v:Value),i=.int .i64 k∧c=.int .i64 (-(bb:Int))∧bb≤1∧k≤(zl x).length∧Q.length=k∧Dec Q∧dval ((zl x).take k)+10000^k*bb=dval Q+dval ((zl y).take k)∧Own (w.heap.size+1+1+1+1) 3 .i64 wr v Q∧ZL 47 wr w.heap.size true (.slice a0 (zl x).length c0)∧ZL 47 wr (w.heap.size+1) false (.slice a1 (zl y).length c1)∧ZL 47 wr (w.heap.size+1+1) false (.slice none 0 0)∧ZL 47 wr (w.heap.size+1+1+1) true v∧Below w.heap.size w wr) (fun _ i _=>(zl x).length+(zl y).length+2-(intOf i).toNat)
  case atStart=>
   exact ⟨0,0,[],_,rfl,by rfl,by omega,by omega,rfl,AllLt.nil,by simp [dval,val],Own.nil,(((ZL.made rfl).alloc _).alloc _).alloc _,((ZL.made (by simp)).alloc _).alloc _,(ZL.made (by simp)).alloc _,ZL.made (by simp),by (repeat' first|(with_reducible first|apply bR|assumption|apply bN|apply bD|apply bL|apply bS)|go_size)⟩
  case round=>
   obtain ⟨k,bb,Q,v,rfl,rfl,hbb,hk,hQ,lQ,hv,hown,zA,zB,zR,zO,hb⟩:=hrel
   have HQ:=hid hQ
   have HV:=hid hv
   clear hQ hv
   have hsz:=zO.lt
   obtain ⟨kA0,kA1,-,-,-⟩:=id zA
   obtain ⟨kB0,kB1,-,-,-⟩:=id zB
   obtain ⟨kO0,kO1,fO0,fO1,-⟩:=id zO
   by_cases hka:k<(zl x).length
   ·obtain ⟨b0,o0,rfl,hc0⟩:=n0.2.2 (by omega)
    obtain ⟨dx,hdx⟩: ∃z,z=(zl x).getD k 0:=⟨_,rfl⟩
    have hdx1:dx<10000:=by rw [hdx];exact lb_dec _ (zl_dec _) k
    have hcellX:wr.cell? ⟨b0,o0+k,none⟩=some (.int .i64 (dx:Int)):=by
     have h1:=hc0 k (by omega)
     have h2:=hb.cell (p:=⟨b0,o0+k,none⟩) (World.block_lt_of_cell? w _ h1)
     rw [h2,h1,hdx];rfl
    clear hc0
    by_cases hkb:k<(zl y).length
    ·obtain ⟨b1,o1,rfl,hc1⟩:=n1.2.2 (by omega)
     obtain ⟨dy,hdy⟩: ∃z,z=(zl y).getD k 0:=⟨_,rfl⟩
     have hdy1:dy<10000:=by rw [hdy];exact lb_dec _ (zl_dec _) k
     have hcellY:wr.cell? ⟨b1,o1+k,none⟩=some (.int .i64 (dy:Int)):=by
      have h1:=hc1 k (by omega)
      have h2:=hb.cell (p:=⟨b1,o1+k,none⟩) (World.block_lt_of_cell? w _ h1)
      rw [h2,h1,hdy];rfl
     clear hc1
     have HX:=hid hdx
     have HY:=hid hdy
     clear hdx hdy
     by_cases hsum:bb+dy≤dx
     ·go_wp2_with (at_builtin;refine wpList_push ei_int (by omega) rfl _ _ rfl (w.heap.size+1+1+1+1) Q (dx-(bb+dy)) _ rfl (Own.alloc hown _) ⟨wr.heap.size,0,none⟩ rfl (cell_push _ _ _ _ _ (by omega)) (by rw [HQ.out];omega) (by simp;omega) ?_;intro v1 w1 hown1 hb1;obtain ⟨ao1,nn1,cap1,rfl⟩:=hown1.slice;obtain ⟨hc1,hf1⟩:=bcellB hb1)
      clear hsum
      go_roundw
      case rel=>exact ⟨k+1,0,Q++ [dx-(bb+dy)],.slice ao1 nn1 cap1,by go_num,by go_num,by omega,by omega,by rw [List.length_append,HQ.out];rfl,AllLt.append.2 ⟨lQ,AllLt.cons.2 ⟨by omega,AllLt.nil⟩⟩,by
       have:=dec_sub_step (x:=dx) (y:=dy) (d:=dx-(bb+dy)) (b':=0) HV.out (by omega)
       unfold dval at *
       rw [val_snoc,HQ.out,take_step,take_step,←HX.out,←HY.out];exact this,
       hown1.set_other _ (by simp) _,((zA.alloc _).belowB hb1 (by omega)).far _ _ (by simp;omega),((zB.alloc _).belowB hb1 (by omega)).far _ _ (by simp),((zR.alloc _).belowB hb1 (by omega)).far _ _ (by simp),((zO.alloc _).belowB hb1 (by omega)).set1 _,
       ((hb.trans ((below_alloc wr _).mono hb.size)).trans (hb1.mono (by omega))).setCell (by simp;omega) _⟩
      case measure=>simp [intOf];omega
     ·go_wp2_with (at_builtin;refine wpList_push ei_int (by omega) rfl _ _ rfl (w.heap.size+1+1+1+1) Q (dx+10000-(bb+dy)) _ rfl (Own.alloc hown _) ⟨wr.heap.size,0,none⟩ rfl (cell_push _ _ _ _ _ (by omega)) (by rw [HQ.out];omega) (by simp;omega) ?_;intro v1 w1 hown1 hb1;obtain ⟨ao1,nn1,cap1,rfl⟩:=hown1.slice;obtain ⟨hc1,hf1⟩:=bcellB hb1)
      go_roundw
      case rel=>exact ⟨k+1,1,Q++ [dx+10000-(bb+dy)],.slice ao1 nn1 cap1,by go_num,by go_num,by omega,by omega,by rw [List.length_append,HQ.out];rfl,AllLt.append.2 ⟨lQ,AllLt.cons.2 ⟨by omega,AllLt.nil⟩⟩,by
       have:=dec_sub_step (x:=dx) (y:=dy) (d:=dx+10000-(bb+dy)) (b':=1) HV.out (by omega)
       unfold dval at *
       rw [val_snoc,HQ.out,take_step,take_step,←HX.out,←HY.out];exact this,
       hown1.set_other _ (by simp) _,((zA.alloc _).belowB hb1 (by omega)).far _ _ (by simp;omega),((zB.alloc _).belowB hb1 (by omega)).far _ _ (by simp),((zR.alloc _).belowB hb1 (by omega)).far _ _ (by simp),((zO.alloc _).belowB hb1 (by omega)).set1 _,
       ((hb.trans ((below_alloc wr _).mono hb.size)).trans (hb1.mono (by omega))).setCell (by simp;omega) _⟩
      case measure=>simp [intOf];omega
    ·have hdy:0=(zl y).getD k 0:=(getD_out _ _ (by omega)).symm
     have HX:=hid hdx
     have HY:=hid hdy
     clear hdx hdy
     by_cases hsum:bb≤dx
     ·go_wp2_with (at_builtin;refine wpList_push ei_int (by omega) rfl _ _ rfl (w.heap.size+1+1+1+1) Q (dx-(bb)) _ rfl (Own.alloc hown _) ⟨wr.heap.size,0,none⟩ rfl (cell_push _ _ _ _ _ (by omega)) (by rw [HQ.out];omega) (by simp;omega) ?_;intro v1 w1 hown1 hb1;obtain ⟨ao1,nn1,cap1,rfl⟩:=hown1.slice;obtain ⟨hc1,hf1⟩:=bcellB hb1)
      clear hsum
      go_roundw
      case rel=>exact ⟨k+1,0,Q++ [dx-(bb)],.slice ao1 nn1 cap1,by go_num,by go_num,by omega,by omega,by rw [List.length_append,HQ.out];rfl,AllLt.append.2 ⟨lQ,AllLt.cons.2 ⟨by omega,AllLt.nil⟩⟩,by
       have:=dec_sub_step (x:=dx) (y:=0) (d:=dx-(bb)) (b':=0) HV.out (by omega)
       unfold dval at *
       rw [val_snoc,HQ.out,take_step,take_step,←HX.out,←HY.out];exact this,
       hown1.set_other _ (by simp) _,((zA.alloc _).belowB hb1 (by omega)).far _ _ (by simp;omega),((zB.alloc _).belowB hb1 (by omega)).far _ _ (by simp),((zR.alloc _).belowB hb1 (by omega)).far _ _ (by simp),((zO.alloc _).belowB hb1 (by omega)).set1 _,
       ((hb.trans ((below_alloc wr _).mono hb.size)).trans (hb1.mono (by omega))).setCell (by simp;omega) _⟩
      case measure=>simp [intOf];omega
     ·go_wp2_with (at_builtin;refine wpList_push ei_int (by omega) rfl _ _ rfl (w.heap.size+1+1+1+1) Q (dx+10000-(bb)) _ rfl (Own.alloc hown _) ⟨wr.heap.size,0,none⟩ rfl (cell_push _ _ _ _ _ (by omega)) (by rw [HQ.out];omega) (by simp;omega) ?_;intro v1 w1 hown1 hb1;obtain ⟨ao1,nn1,cap1,rfl⟩:=hown1.slice;obtain ⟨hc1,hf1⟩:=bcellB hb1)
      go_roundw
      case rel=>exact ⟨k+1,1,Q++ [dx+10000-(bb)],.slice ao1 nn1 cap1,by go_num,by go_num,by omega,by omega,by rw [List.length_append,HQ.out];rfl,AllLt.append.2 ⟨lQ,AllLt.cons.2 ⟨by omega,AllLt.nil⟩⟩,by
       have:=dec_sub_step (x:=dx) (y:=0) (d:=dx+10000-(bb)) (b':=1) HV.out (by omega)
       unfold dval at *
       rw [val_snoc,HQ.out,take_step,take_step,←HX.out,←HY.out];exact this,
       hown1.set_other _ (by simp) _,((zA.alloc _).belowB hb1 (by omega)).far _ _ (by simp;omega),((zB.alloc _).belowB hb1 (by omega)).far _ _ (by simp),((zR.alloc _).belowB hb1 (by omega)).far _ _ (by simp),((zO.alloc _).belowB hb1 (by omega)).set1 _,
       ((hb.trans ((below_alloc wr _).mono hb.size)).trans (hb1.mono (by omega))).setCell (by simp;omega) _⟩
      case measure=>simp [intOf];omega
   ·have hke:k=(zl x).length:=by omega
    have hval:zof true (dval Q)=hsumV:=by
     have:=HV.out
     rw [hke,List.take_of_length_le (Nat.le_refl _),List.take_of_length_le hlen,dval_zl,dval_zl,←hke] at this
     rw [dec_sub_end this hbb (by have:=dval_lt Q lQ;rwa [HQ.out] at this) HLE.out];exact hfin.out
    have HF:=hid hval
    clear hval hke
    obtain ⟨ao1,cap1,rfl,hN1⟩:=hown.nz
    go_wp2_with fail
    have hfr: ∀p,ao1=some p→w.heap.size≤p.block:=fun p hp=>Nat.le_trans (by omega) (hown.fresh p hp)
    refine (trim_at _ _ _ _ _ hN1 lQ).mono ?_
    rw [HF.out]
    rintro e w2 ⟨cap2,rfl,hN2,hb2⟩
    have zR2:=zR.below hb2
    have k0:=zR2.1
    have k1:=zR2.2.1
    have f0:=zR2.2.2.1
    have f1:=zR2.2.2.2.1
    have hs2:=zR2.2.2.2.2
    go_wp2_with fail
    refine bodyPost_ret (by simp [results,Tryz.results76,go_sem,k0,k1];try rfl) rfl ?_
    exact ⟨_,_,rfl,(hN2.setCell hs2 (by decide) _ _).setCell (hs2.setCell _ _) (by decide) _ _,((below_trans hb hb2).setCell (by simp;omega) _).setCell (by simp;omega) _,hfr⟩
 ·rw [e1] at hfin ⊢
  rw [e2]
  clear e1 e2
  go_enter Tryz.func76,Tryz.ntmps76
  go_wp2_with (go_at_call 113;refine (size_any _ _ _ _ _ _ _ (h0.below (by go_grown)).ns (h1.below (by go_grown)).ns).mono ?_;rintro e w' ⟨rfl,nq,rfl⟩)
  go_loopw [6,7] (fun c i wr=> ∃(k bb:Nat) (Q:List Nat) (v:Value),i=.int .i64 k∧c=.int .i64 (-(bb:Int))∧bb≤1∧k≤(zl x).length∧Q.length=k∧Dec Q∧dval ((zl x).take k)+10000^k*bb=dval Q+dval ((zl y).take k)∧Own (w.heap.size+1+1+1+1) 3 .i64 wr v Q∧ZL 47 wr w.heap.size false (.slice a0 (zl x).length c0)∧ZL 47 wr (w.heap.size+1) true (.slice a1 (zl y).length c1)∧ZL 47 wr (w.heap.size+1+1) false (.slice none 0 0)∧ZL 47 wr (w.heap.size+1+1+1) false v∧Below w.heap.size w wr) (fun _ i _=>(zl x).length+(zl y).length+2-(intOf i).toNat)
  case atStart=>
   exact ⟨0,0,[],_,rfl,by rfl,by omega,by omega,rfl,AllLt.nil,by simp [dval,val],Own.nil,(((ZL.made rfl).alloc _).alloc _).alloc _,((ZL.made (by simp)).alloc _).alloc _,(ZL.made (by simp)).alloc _,ZL.made (by simp),by (repeat' first|(with_reducible first|apply bR|assumption|apply bN|apply bD|apply bL|apply bS)|go_size)⟩
  case round=>
   obtain ⟨k,bb,Q,v,rfl,rfl,hbb,hk,hQ,lQ,hv,hown,zA,zB,zR,zO,hb⟩:=hrel
   have HQ:=hid hQ
   have HV:=hid hv
   clear hQ hv
   have hsz:=zO.lt
   obtain ⟨kA0,kA1,-,-,-⟩:=id zA
   obtain ⟨kB0,kB1,-,-,-⟩:=id zB
   obtain ⟨kO0,kO1,fO0,fO1,-⟩:=id zO
   by_cases hka:k<(zl x).length
   ·obtain ⟨b0,o0,rfl,hc0⟩:=n0.2.2 (by omega)
    obtain ⟨dx,hdx⟩: ∃z,z=(zl x).getD k 0:=⟨_,rfl⟩
    have hdx1:dx<10000:=by rw [hdx];exact lb_dec _ (zl_dec _) k
    have hcellX:wr.cell? ⟨b0,o0+k,none⟩=some (.int .i64 (dx:Int)):=by
     have h1:=hc0 k (by omega)
     have h2:=hb.cell (p:=⟨b0,o0+k,none⟩) (World.block_lt_of_cell? w _ h1)
     rw [h2,h1,hdx];rfl
    clear hc0
    by_cases hkb:k<(zl y).length
    ·obtain ⟨b1,o1,rfl,hc1⟩:=n1.2.2 (by omega)
     obtain ⟨dy,hdy⟩: ∃z,z=(zl y).getD k 0:=⟨_,rfl⟩
     have hdy1:dy<10000:=by rw [hdy];exact lb_dec _ (zl_dec _) k
     have hcellY:wr.cell? ⟨b1,o1+k,none⟩=some (.int .i64 (dy:Int)):=by
      have h1:=hc1 k (by omega)
      have h2:=hb.cell (p:=⟨b1,o1+k,none⟩) (World.block_lt_of_cell? w _ h1)
      rw [h2,h1,hdy];rfl
     clear hc1
     have HX:=hid hdx
     have HY:=hid hdy
     clear hdx hdy
     by_cases hsum:bb+dy≤dx
     ·go_wp2_with (at_builtin;refine wpList_push ei_int (by omega) rfl _ _ rfl (w.heap.size+1+1+1+1) Q (dx-(bb+dy)) _ rfl (Own.alloc hown _) ⟨wr.heap.size,0,none⟩ rfl (cell_push _ _ _ _ _ (by omega)) (by rw [HQ.out];omega) (by simp;omega) ?_;intro v1 w1 hown1 hb1;obtain ⟨ao1,nn1,cap1,rfl⟩:=hown1.slice;obtain ⟨hc1,hf1⟩:=bcellB hb1)
      clear hsum
      go_roundw
      case rel=>exact ⟨k+1,0,Q++ [dx-(bb+dy)],.slice ao1 nn1 cap1,by go_num,by go_num,by omega,by omega,by rw [List.length_append,HQ.out];rfl,AllLt.append.2 ⟨lQ,AllLt.cons.2 ⟨by omega,AllLt.nil⟩⟩,by
       have:=dec_sub_step (x:=dx) (y:=dy) (d:=dx-(bb+dy)) (b':=0) HV.out (by omega)
       unfold dval at *
       rw [val_snoc,HQ.out,take_step,take_step,←HX.out,←HY.out];exact this,
       hown1.set_other _ (by simp) _,((zA.alloc _).belowB hb1 (by omega)).far _ _ (by simp;omega),((zB.alloc _).belowB hb1 (by omega)).far _ _ (by simp),((zR.alloc _).belowB hb1 (by omega)).far _ _ (by simp),((zO.alloc _).belowB hb1 (by omega)).set1 _,
       ((hb.trans ((below_alloc wr _).mono hb.size)).trans (hb1.mono (by omega))).setCell (by simp;omega) _⟩
      case measure=>simp [intOf];omega
     ·go_wp2_with (at_builtin;refine wpList_push ei_int (by omega) rfl _ _ rfl (w.heap.size+1+1+1+1) Q (dx+10000-(bb+dy)) _ rfl (Own.alloc hown _) ⟨wr.heap.size,0,none⟩ rfl (cell_push _ _ _ _ _ (by omega)) (by rw [HQ.out];omega) (by simp;omega) ?_;intro v1 w1 hown1 hb1;obtain ⟨ao1,nn1,cap1,rfl⟩:=hown1.slice;obtain ⟨hc1,hf1⟩:=bcellB hb1)
      go_roundw
      case rel=>exact ⟨k+1,1,Q++ [dx+10000-(bb+dy)],.slice ao1 nn1 cap1,by go_num,by go_num,by omega,by omega,by rw [List.length_append,HQ.out];rfl,AllLt.append.2 ⟨lQ,AllLt.cons.2 ⟨by omega,AllLt.nil⟩⟩,by
       have:=dec_sub_step (x:=dx) (y:=dy) (d:=dx+10000-(bb+dy)) (b':=1) HV.out (by omega)
       unfold dval at *
       rw [val_snoc,HQ.out,take_step,take_step,←HX.out,←HY.out];exact this,
       hown1.set_other _ (by simp) _,((zA.alloc _).belowB hb1 (by omega)).far _ _ (by simp;omega),((zB.alloc _).belowB hb1 (by omega)).far _ _ (by simp),((zR.alloc _).belowB hb1 (by omega)).far _ _ (by simp),((zO.alloc _).belowB hb1 (by omega)).set1 _,
       ((hb.trans ((below_alloc wr _).mono hb.size)).trans (hb1.mono (by omega))).setCell (by simp;omega) _⟩
      case measure=>simp [intOf];omega
    ·have hdy:0=(zl y).getD k 0:=(getD_out _ _ (by omega)).symm
     have HX:=hid hdx
     have HY:=hid hdy
     clear hdx hdy
     by_cases hsum:bb≤dx
     ·go_wp2_with (at_builtin;refine wpList_push ei_int (by omega) rfl _ _ rfl (w.heap.size+1+1+1+1) Q (dx-(bb)) _ rfl (Own.alloc hown _) ⟨wr.heap.size,0,none⟩ rfl (cell_push _ _ _ _ _ (by omega)) (by rw [HQ.out];omega) (by simp;omega) ?_;intro v1 w1 hown1 hb1;obtain ⟨ao1,nn1,cap1,rfl⟩:=hown1.slice;obtain ⟨hc1,hf1⟩:=bcellB hb1)
      clear hsum
      go_roundw
      case rel=>exact ⟨k+1,0,Q++ [dx-(bb)],.slice ao1 nn1 cap1,by go_num,by go_num,by omega,by omega,by rw [List.length_append,HQ.out];rfl,AllLt.append.2 ⟨lQ,AllLt.cons.2 ⟨by omega,AllLt.nil⟩⟩,by
       have:=dec_sub_step (x:=dx) (y:=0) (d:=dx-(bb)) (b':=0) HV.out (by omega)
       unfold dval at *
       rw [val_snoc,HQ.out,take_step,take_step,←HX.out,←HY.out];exact this,
       hown1.set_other _ (by simp) _,((zA.alloc _).belowB hb1 (by omega)).far _ _ (by simp;omega),((zB.alloc _).belowB hb1 (by omega)).far _ _ (by simp),((zR.alloc _).belowB hb1 (by omega)).far _ _ (by simp),((zO.alloc _).belowB hb1 (by omega)).set1 _,
       ((hb.trans ((below_alloc wr _).mono hb.size)).trans (hb1.mono (by omega))).setCell (by simp;omega) _⟩
      case measure=>simp [intOf];omega
     ·go_wp2_with (at_builtin;refine wpList_push ei_int (by omega) rfl _ _ rfl (w.heap.size+1+1+1+1) Q (dx+10000-(bb)) _ rfl (Own.alloc hown _) ⟨wr.heap.size,0,none⟩ rfl (cell_push _ _ _ _ _ (by omega)) (by rw [HQ.out];omega) (by simp;omega) ?_;intro v1 w1 hown1 hb1;obtain ⟨ao1,nn1,cap1,rfl⟩:=hown1.slice;obtain ⟨hc1,hf1⟩:=bcellB hb1)
      go_roundw
      case rel=>exact ⟨k+1,1,Q++ [dx+10000-(bb)],.slice ao1 nn1 cap1,by go_num,by go_num,by omega,by omega,by rw [List.length_append,HQ.out];rfl,AllLt.append.2 ⟨lQ,AllLt.cons.2 ⟨by omega,AllLt.nil⟩⟩,by
       have:=dec_sub_step (x:=dx) (y:=0) (d:=dx+10000-(bb)) (b':=1) HV.out (by omega)
       unfold dval at *
       rw [val_snoc,HQ.out,take_step,take_step,←HX.out,←HY.out];exact this,
       hown1.set_other _ (by simp) _,((zA.alloc _).belowB hb1 (by omega)).far _ _ (by simp;omega),((zB.alloc _).belowB hb1 (by omega)).far _ _ (by simp),((zR.alloc _).belowB hb1 (by omega)).far _ _ (by simp),((zO.alloc _).belowB hb1 (by omega)).set1 _,
       ((hb.trans ((below_alloc wr _).mono hb.size)).trans (hb1.mono (by omega))).setCell (by simp;omega) _⟩
      case measure=>simp [intOf];omega
   ·have hke:k=(zl x).length:=by omega
    have hval:zof false (dval Q)=hsumV:=by
     have:=HV.out
     rw [hke,List.take_of_length_le (Nat.le_refl _),List.take_of_length_le hlen,dval_zl,dval_zl,←hke] at this
     rw [dec_sub_end this hbb (by have:=dval_lt Q lQ;rwa [HQ.out] at this) HLE.out];exact hfin.out
    have HF:=hid hval
    clear hval hke
    obtain ⟨ao1,cap1,rfl,hN1⟩:=hown.nz
    go_wp2_with fail
    have hfr: ∀p,ao1=some p→w.heap.size≤p.block:=fun p hp=>Nat.le_trans (by omega) (hown.fresh p hp)
    refine (trim_at _ _ _ _ _ hN1 lQ).mono ?_
    rw [HF.out]
    rintro e w2 ⟨cap2,rfl,hN2,hb2⟩
    have zR2:=zR.below hb2
    have k0:=zR2.1
    have k1:=zR2.2.1
    have f0:=zR2.2.2.1
    have f1:=zR2.2.2.2.1
    have hs2:=zR2.2.2.2.2
    go_wp2_with fail
    refine bodyPost_ret (by simp [results,Tryz.results76,go_sem,k0,k1];try rfl) rfl ?_
    exact ⟨_,_,rfl,(hN2.setCell hs2 (by decide) _ _).setCell (hs2.setCell _ _) (by decide) _ _,((below_trans hb hb2).setCell (by simp;omega) _).setCell (by simp;omega) _,hfr⟩
theorem zadd_lt (a0 a1:Option Addr) (c0 c1:Nat) (x y:Int) (w:World) (h0:Nz 3 w a0 c0 (zl x)) (h1:Nz 3 w a1 c1 (zl y)) (hl0:(zl y).length≤4294967296) (hs:zneg x≠zneg y) (hge:x.natAbs<y.natAbs) (hsumV:Int) (hsum:hsumV=x+y):
 Calls Tryz.prog 76 #[.agg #[.bool (zneg x),.slice a0 (zl x).length c0],.agg #[.bool (zneg y),.slice a1 (zl y).length c1]] w fun e w'=>RetZF 3 w hsumV e w':=by
 have hfin:=hid (show zof (zneg y) (y.natAbs-x.natAbs)=hsumV by
  rw [hsum];unfold zneg at hs;unfold zof zneg;by_cases h:x<0<;>by_cases h':y<0<;>simp [h,h'] at hs ⊢ <;>omega)
 have hlen:=zl_len_le (Nat.le_of_lt hge)
 have n0:=h0.ns
 have n1:=h1.ns
 have hcm:decide (cmpI (x.natAbs:Int) (y.natAbs:Int)<0)=true:=by unfold cmpI;simp;split<;>(try split)<;>omega
 have HLE:=hid (Nat.le_of_lt hge)
 have hnn:(zneg x=true∧zneg y=false)∨(zneg x=false∧zneg y=true):=by cases h:zneg x<;>cases h':zneg y<;>simp_all
 clear hs hge hsum
 rcases hnn with ⟨e1,e2⟩|⟨e1,e2⟩
 ·rw [e2] at hfin ⊢
  rw [e1]
  clear e1 e2
  go_enter Tryz.func76,Tryz.ntmps76
  go_wp2_with fail
  refine (size_any _ _ _ _ _ _ _ (h0.below (by go_grown)).ns (h1.below (by go_grown)).ns).mono ?_
  rintro e w1 ⟨rfl,nq,hq⟩
  have yA:ZL 47 w1 w.heap.size true (.slice a0 (zl x).length c0):=by rw [hq];exact (((ZL.made rfl).alloc _).alloc _)
  have yB:ZL 47 w1 (w.heap.size+1) false (.slice a1 (zl y).length c1):=by rw [hq];exact ((ZL.made (by simp)).alloc _)
  have yR:ZL 47 w1 (w.heap.size+1+1) false (.slice none 0 0):=by rw [hq];exact (ZL.made (by simp))
  have yb:Below w.heap.size w w1:=by rw [hq];(repeat' first|(with_reducible first|apply bR|assumption|apply bN|apply bD|apply bL|apply bS)|go_size)
  have hz:w1.heap.size=w.heap.size+1+1+1:=by rw [hq];simp
  clear hq
  have HZ:=hid hz
  clear hz
  obtain ⟨kA0,kA1,fA0,fA1,-⟩:=id yA
  obtain ⟨kB0,kB1,fB0,fB1,-⟩:=id yB
  go_wp2_with fail
  rw [HZ.out]
  clear kA0 kA1 fA0 fA1 kB0 kB1 fB0 fB1
  go_loopw [6,7] (fun c i wr=> ∃(k bb:Nat) (Q:List Nat) (v:Value),i=.int .i64 k∧c=.int .i64 (-(bb:Int))∧bb≤1∧k≤(zl y).length∧Q.length=k∧Dec Q∧dval ((zl y).take k)+10000^k*bb=dval Q+dval ((zl x).take k)∧Own (w.heap.size+1+1+1+1) 3 .i64 wr v Q∧ZL 47 wr w.heap.size false (.slice a1 (zl y).length c1)∧ZL 47 wr (w.heap.size+1) true (.slice a0 (zl x).length c0)∧ZL 47 wr (w.heap.size+1+1) false (.slice none 0 0)∧ZL 47 wr (w.heap.size+1+1+1) false v∧Below w.heap.size w wr) (fun _ i _=>(zl y).length+(zl x).length+2-(intOf i).toNat)
  case atStart=>
   exact ⟨0,0,[],_,rfl,by rfl,by omega,by omega,rfl,AllLt.nil,by simp [dval,val],Own.nil,((((yA.set0 _).set1 _).far _ _ (by simp)).far _ _ (by simp)).alloc _,((((yB.far _ _ (by simp)).far _ _ (by simp)).set0 _).set1 _).alloc _,((((yR.far _ _ (by simp;omega)).far _ _ (by simp;omega)).far _ _ (by simp)).far _ _ (by simp)).alloc _,ZL.made (by simp;exact HZ.out.symm),((((yb.setCell (by simp) _).setCell (by simp) _).setCell (by simp) _).setCell (by simp) _).alloc (by simp;exact yb.size) _⟩
  case round=>
   obtain ⟨k,bb,Q,v,rfl,rfl,hbb,hk,hQ,lQ,hv,hown,zA,zB,zR,zO,hb⟩:=hrel
   have HQ:=hid hQ
   have HV:=hid hv
   clear hQ hv
   have hsz:=zO.lt
   obtain ⟨kA0,kA1,-,-,-⟩:=id zA
   obtain ⟨kB0,kB1,-,-,-⟩:=id zB
   obtain ⟨kO0,kO1,fO0,fO1,-⟩:=id zO
   by_cases hka:k<(zl y).length
   ·obtain ⟨b0,o0,rfl,hc0⟩:=n1.2.2 (by omega)
    obtain ⟨dx,hdx⟩: ∃z,z=(zl y).getD k 0:=⟨_,rfl⟩
    have hdx1:dx<10000:=by rw [hdx];exact lb_dec _ (zl_dec _) k
    have hcellX:wr.cell? ⟨b0,o0+k,none⟩=some (.int .i64 (dx:Int)):=by
     have h1:=hc0 k (by omega)
     have h2:=hb.cell (p:=⟨b0,o0+k,none⟩) (World.block_lt_of_cell? w _ h1)
     rw [h2,h1,hdx];rfl
    clear hc0
    by_cases hkb:k<(zl x).length
    ·obtain ⟨b1,o1,rfl,hc1⟩:=n0.2.2 (by omega)
     obtain ⟨dy,hdy⟩: ∃z,z=(zl x).getD k 0:=⟨_,rfl⟩
     have hdy1:dy<10000:=by rw [hdy];exact lb_dec _ (zl_dec _) k
     have hcellY:wr.cell? ⟨b1,o1+k,none⟩=some (.int .i64 (dy:Int)):=by
      have h1:=hc1 k (by omega)
      have h2:=hb.cell (p:=⟨b1,o1+k,none⟩) (World.block_lt_of_cell? w _ h1)
      rw [h2,h1,hdy];rfl
     clear hc1
     have HX:=hid hdx
     have HY:=hid hdy
     clear hdx hdy
     by_cases hsum:bb+dy≤dx
     ·go_wp2_with (at_builtin;refine wpList_push ei_int (by omega) rfl _ _ rfl (w.heap.size+1+1+1+1) Q (dx-(bb+dy)) _ rfl (Own.alloc hown _) ⟨wr.heap.size,0,none⟩ rfl (cell_push _ _ _ _ _ (by omega)) (by rw [HQ.out];omega) (by simp;omega) ?_;intro v1 w1 hown1 hb1;obtain ⟨ao1,nn1,cap1,rfl⟩:=hown1.slice;obtain ⟨hc1,hf1⟩:=bcellB hb1)
      clear hsum
      go_roundw
      case rel=>exact ⟨k+1,0,Q++ [dx-(bb+dy)],.slice ao1 nn1 cap1,by go_num,by go_num,by omega,by omega,by rw [List.length_append,HQ.out];rfl,AllLt.append.2 ⟨lQ,AllLt.cons.2 ⟨by omega,AllLt.nil⟩⟩,by
       have:=dec_sub_step (x:=dx) (y:=dy) (d:=dx-(bb+dy)) (b':=0) HV.out (by omega)
       unfold dval at *
       rw [val_snoc,HQ.out,take_step,take_step,←HX.out,←HY.out];exact this,
       hown1.set_other _ (by simp) _,((zA.alloc _).belowB hb1 (by omega)).far _ _ (by simp;omega),((zB.alloc _).belowB hb1 (by omega)).far _ _ (by simp),((zR.alloc _).belowB hb1 (by omega)).far _ _ (by simp),((zO.alloc _).belowB hb1 (by omega)).set1 _,
       ((hb.trans ((below_alloc wr _).mono hb.size)).trans (hb1.mono (by omega))).setCell (by simp;omega) _⟩
      case measure=>simp [intOf];omega
     ·go_wp2_with (at_builtin;refine wpList_push ei_int (by omega) rfl _ _ rfl (w.heap.size+1+1+1+1) Q (dx+10000-(bb+dy)) _ rfl (Own.alloc hown _) ⟨wr.heap.size,0,none⟩ rfl (cell_push _ _ _ _ _ (by omega)) (by rw [HQ.out];omega) (by simp;omega) ?_;intro v1 w1 hown1 hb1;obtain ⟨ao1,nn1,cap1,rfl⟩:=hown1.slice;obtain ⟨hc1,hf1⟩:=bcellB hb1)
      go_roundw
      case rel=>exact ⟨k+1,1,Q++ [dx+10000-(bb+dy)],.slice ao1 nn1 cap1,by go_num,by go_num,by omega,by omega,by rw [List.length_append,HQ.out];rfl,AllLt.append.2 ⟨lQ,AllLt.cons.2 ⟨by omega,AllLt.nil⟩⟩,by
       have:=dec_sub_step (x:=dx) (y:=dy) (d:=dx+10000-(bb+dy)) (b':=1) HV.out (by omega)
       unfold dval at *
       rw [val_snoc,HQ.out,take_step,take_step,←HX.out,←HY.out];exact this,
       hown1.set_other _ (by simp) _,((zA.alloc _).belowB hb1 (by omega)).far _ _ (by simp;omega),((zB.alloc _).belowB hb1 (by omega)).far _ _ (by simp),((zR.alloc _).belowB hb1 (by omega)).far _ _ (by simp),((zO.alloc _).belowB hb1 (by omega)).set1 _,
       ((hb.trans ((below_alloc wr _).mono hb.size)).trans (hb1.mono (by omega))).setCell (by simp;omega) _⟩
      case measure=>simp [intOf];omega
    ·have hdy:0=(zl x).getD k 0:=(getD_out _ _ (by omega)).symm
     have HX:=hid hdx
     have HY:=hid hdy
     clear hdx hdy
     by_cases hsum:bb≤dx
     ·go_wp2_with (at_builtin;refine wpList_push ei_int (by omega) rfl _ _ rfl (w.heap.size+1+1+1+1) Q (dx-(bb)) _ rfl (Own.alloc hown _) ⟨wr.heap.size,0,none⟩ rfl (cell_push _ _ _ _ _ (by omega)) (by rw [HQ.out];omega) (by simp;omega) ?_;intro v1 w1 hown1 hb1;obtain ⟨ao1,nn1,cap1,rfl⟩:=hown1.slice;obtain ⟨hc1,hf1⟩:=bcellB hb1)
      clear hsum
      go_roundw
      case rel=>exact ⟨k+1,0,Q++ [dx-(bb)],.slice ao1 nn1 cap1,by go_num,by go_num,by omega,by omega,by rw [List.length_append,HQ.out];rfl,AllLt.append.2 ⟨lQ,AllLt.cons.2 ⟨by omega,AllLt.nil⟩⟩,by
       have:=dec_sub_step (x:=dx) (y:=0) (d:=dx-(bb)) (b':=0) HV.out (by omega)
       unfold dval at *
       rw [val_snoc,HQ.out,take_step,take_step,←HX.out,←HY.out];exact this,
       hown1.set_other _ (by simp) _,((zA.alloc _).belowB hb1 (by omega)).far _ _ (by simp;omega),((zB.alloc _).belowB hb1 (by omega)).far _ _ (by simp),((zR.alloc _).belowB hb1 (by omega)).far _ _ (by simp),((zO.alloc _).belowB hb1 (by omega)).set1 _,
       ((hb.trans ((below_alloc wr _).mono hb.size)).trans (hb1.mono (by omega))).setCell (by simp;omega) _⟩
      case measure=>simp [intOf];omega
     ·go_wp2_with (at_builtin;refine wpList_push ei_int (by omega) rfl _ _ rfl (w.heap.size+1+1+1+1) Q (dx+10000-(bb)) _ rfl (Own.alloc hown _) ⟨wr.heap.size,0,none⟩ rfl (cell_push _ _ _ _ _ (by omega)) (by rw [HQ.out];omega) (by simp;omega) ?_;intro v1 w1 hown1 hb1;obtain ⟨ao1,nn1,cap1,rfl⟩:=hown1.slice;obtain ⟨hc1,hf1⟩:=bcellB hb1)
      go_roundw
      case rel=>exact ⟨k+1,1,Q++ [dx+10000-(bb)],.slice ao1 nn1 cap1,by go_num,by go_num,by omega,by omega,by rw [List.length_append,HQ.out];rfl,AllLt.append.2 ⟨lQ,AllLt.cons.2 ⟨by omega,AllLt.nil⟩⟩,by
       have:=dec_sub_step (x:=dx) (y:=0) (d:=dx+10000-(bb)) (b':=1) HV.out (by omega)
       unfold dval at *
       rw [val_snoc,HQ.out,take_step,take_step,←HX.out,←HY.out];exact this,
       hown1.set_other _ (by simp) _,((zA.alloc _).belowB hb1 (by omega)).far _ _ (by simp;omega),((zB.alloc _).belowB hb1 (by omega)).far _ _ (by simp),((zR.alloc _).belowB hb1 (by omega)).far _ _ (by simp),((zO.alloc _).belowB hb1 (by omega)).set1 _,
       ((hb.trans ((below_alloc wr _).mono hb.size)).trans (hb1.mono (by omega))).setCell (by simp;omega) _⟩
      case measure=>simp [intOf];omega
   ·have hke:k=(zl y).length:=by omega
    have hval:zof false (dval Q)=hsumV:=by
     have:=HV.out
     rw [hke,List.take_of_length_le (Nat.le_refl _),List.take_of_length_le hlen,dval_zl,dval_zl,←hke] at this
     rw [dec_sub_end this hbb (by have:=dval_lt Q lQ;rwa [HQ.out] at this) HLE.out];exact hfin.out
    have HF:=hid hval
    clear hval hke
    obtain ⟨ao1,cap1,rfl,hN1⟩:=hown.nz
    go_wp2_with fail
    have hfr: ∀p,ao1=some p→w.heap.size≤p.block:=fun p hp=>Nat.le_trans (by omega) (hown.fresh p hp)
    refine (trim_at _ _ _ _ _ hN1 lQ).mono ?_
    rw [HF.out]
    rintro e w2 ⟨cap2,rfl,hN2,hb2⟩
    have zR2:=zR.below hb2
    have k0:=zR2.1
    have k1:=zR2.2.1
    have f0:=zR2.2.2.1
    have f1:=zR2.2.2.2.1
    have hs2:=zR2.2.2.2.2
    go_wp2_with fail
    refine bodyPost_ret (by simp [results,Tryz.results76,go_sem,k0,k1];try rfl) rfl ?_
    exact ⟨_,_,rfl,(hN2.setCell hs2 (by decide) _ _).setCell (hs2.setCell _ _) (by decide) _ _,((below_trans hb hb2).setCell (by simp;omega) _).setCell (by simp;omega) _,hfr⟩
 ·rw [e2] at hfin ⊢
  rw [e1]
  clear e1 e2
  go_enter Tryz.func76,Tryz.ntmps76
  go_wp2_with fail
  refine (size_any _ _ _ _ _ _ _ (h0.below (by go_grown)).ns (h1.below (by go_grown)).ns).mono ?_
  rintro e w1 ⟨rfl,nq,hq⟩
  have yA:ZL 47 w1 w.heap.size false (.slice a0 (zl x).length c0):=by rw [hq];exact (((ZL.made rfl).alloc _).alloc _)
  have yB:ZL 47 w1 (w.heap.size+1) true (.slice a1 (zl y).length c1):=by rw [hq];exact ((ZL.made (by simp)).alloc _)
  have yR:ZL 47 w1 (w.heap.size+1+1) false (.slice none 0 0):=by rw [hq];exact (ZL.made (by simp))
  have yb:Below w.heap.size w w1:=by rw [hq];(repeat' first|(with_reducible first|apply bR|assumption|apply bN|apply bD|apply bL|apply bS)|go_size)
  have hz:w1.heap.size=w.heap.size+1+1+1:=by rw [hq];simp
  clear hq
  have HZ:=hid hz
  clear hz
  obtain ⟨kA0,kA1,fA0,fA1,-⟩:=id yA
  obtain ⟨kB0,kB1,fB0,fB1,-⟩:=id yB
  go_wp2_with fail
  rw [HZ.out]
  clear kA0 kA1 fA0 fA1 kB0 kB1 fB0 fB1
  go_loopw [6,7] (fun c i wr=> ∃(k bb:Nat) (Q:List Nat) (v:Value),i=.int .i64 k∧c=.int .i64 (-(bb:Int))∧bb≤1∧k≤(zl y).length∧Q.length=k∧Dec Q∧dval ((zl y).take k)+10000^k*bb=dval Q+dval ((zl x).take k)∧Own (w.heap.size+1+1+1+1) 3 .i64 wr v Q∧ZL 47 wr w.heap.size true (.slice a1 (zl y).length c1)∧ZL 47 wr (w.heap.size+1) false (.slice a0 (zl x).length c0)∧ZL 47 wr (w.heap.size+1+1) false (.slice none 0 0)∧ZL 47 wr (w.heap.size+1+1+1) true v∧Below w.heap.size w wr) (fun _ i _=>(zl y).length+(zl x).length+2-(intOf i).toNat)
  case atStart=>
   exact ⟨0,0,[],_,rfl,by rfl,by omega,by omega,rfl,AllLt.nil,by simp [dval,val],Own.nil,((((yA.set0 _).set1 _).far _ _ (by simp)).far _ _ (by simp)).alloc _,((((yB.far _ _ (by simp)).far _ _ (by simp)).set0 _).set1 _).alloc _,((((yR.far _ _ (by simp;omega)).far _ _ (by simp;omega)).far _ _ (by simp)).far _ _ (by simp)).alloc _,ZL.made (by simp;exact HZ.out.symm),((((yb.setCell (by simp) _).setCell (by simp) _).setCell (by simp) _).setCell (by simp) _).alloc (by simp;exact yb.size) _⟩
  case round=>
   obtain ⟨k,bb,Q,v,rfl,rfl,hbb,hk,hQ,lQ,hv,hown,zA,zB,zR,zO,hb⟩:=hrel
   have HQ:=hid hQ
   have HV:=hid hv
   clear hQ hv
   have hsz:=zO.lt
   obtain ⟨kA0,kA1,-,-,-⟩:=id zA
   obtain ⟨kB0,kB1,-,-,-⟩:=id zB
   obtain ⟨kO0,kO1,fO0,fO1,-⟩:=id zO
   by_cases hka:k<(zl y).length
   ·obtain ⟨b0,o0,rfl,hc0⟩:=n1.2.2 (by omega)
    obtain ⟨dx,hdx⟩: ∃z,z=(zl y).getD k 0:=⟨_,rfl⟩
    have hdx1:dx<10000:=by rw [hdx];exact lb_dec _ (zl_dec _) k
    have hcellX:wr.cell? ⟨b0,o0+k,none⟩=some (.int .i64 (dx:Int)):=by
     have h1:=hc0 k (by omega)
     have h2:=hb.cell (p:=⟨b0,o0+k,none⟩) (World.block_lt_of_cell? w _ h1)
     rw [h2,h1,hdx];rfl
    clear hc0
    by_cases hkb:k<(zl x).length
    ·obtain ⟨b1,o1,rfl,hc1⟩:=n0.2.2 (by omega)
     obtain ⟨dy,hdy⟩: ∃z,z=(zl x).getD k 0:=⟨_,rfl⟩
     have hdy1:dy<10000:=by rw [hdy];exact lb_dec _ (zl_dec _) k
     have hcellY:wr.cell? ⟨b1,o1+k,none⟩=some (.int .i64 (dy:Int)):=by
      have h1:=hc1 k (by omega)
      have h2:=hb.cell (p:=⟨b1,o1+k,none⟩) (World.block_lt_of_cell? w _ h1)
      rw [h2,h1,hdy];rfl
     clear hc1
     have HX:=hid hdx
     have HY:=hid hdy
     clear hdx hdy
     by_cases hsum:bb+dy≤dx
     ·go_wp2_with (at_builtin;refine wpList_push ei_int (by omega) rfl _ _ rfl (w.heap.size+1+1+1+1) Q (dx-(bb+dy)) _ rfl (Own.alloc hown _) ⟨wr.heap.size,0,none⟩ rfl (cell_push _ _ _ _ _ (by omega)) (by rw [HQ.out];omega) (by simp;omega) ?_;intro v1 w1 hown1 hb1;obtain ⟨ao1,nn1,cap1,rfl⟩:=hown1.slice;obtain ⟨hc1,hf1⟩:=bcellB hb1)
      clear hsum
      go_roundw
      case rel=>exact ⟨k+1,0,Q++ [dx-(bb+dy)],.slice ao1 nn1 cap1,by go_num,by go_num,by omega,by omega,by rw [List.length_append,HQ.out];rfl,AllLt.append.2 ⟨lQ,AllLt.cons.2 ⟨by omega,AllLt.nil⟩⟩,by
       have:=dec_sub_step (x:=dx) (y:=dy) (d:=dx-(bb+dy)) (b':=0) HV.out (by omega)
       unfold dval at *
       rw [val_snoc,HQ.out,take_step,take_step,←HX.out,←HY.out];exact this,
       hown1.set_other _ (by simp) _,((zA.alloc _).belowB hb1 (by omega)).far _ _ (by simp;omega),((zB.alloc _).belowB hb1 (by omega)).far _ _ (by simp),((zR.alloc _).belowB hb1 (by omega)).far _ _ (by simp),((zO.alloc _).belowB hb1 (by omega)).set1 _,
       ((hb.trans ((below_alloc wr _).mono hb.size)).trans (hb1.mono (by omega))).setCell (by simp;omega) _⟩
      case measure=>simp [intOf];omega
     ·go_wp2_with (at_builtin;refine wpList_push ei_int (by omega) rfl _ _ rfl (w.heap.size+1+1+1+1) Q (dx+10000-(bb+dy)) _ rfl (Own.alloc hown _) ⟨wr.heap.size,0,none⟩ rfl (cell_push _ _ _ _ _ (by omega)) (by rw [HQ.out];omega) (by simp;omega) ?_;intro v1 w1 hown1 hb1;obtain ⟨ao1,nn1,cap1,rfl⟩:=hown1.slice;obtain ⟨hc1,hf1⟩:=bcellB hb1)
      go_roundw
      case rel=>exact ⟨k+1,1,Q++ [dx+10000-(bb+dy)],.slice ao1 nn1 cap1,by go_num,by go_num,by omega,by omega,by rw [List.length_append,HQ.out];rfl,AllLt.append.2 ⟨lQ,AllLt.cons.2 ⟨by omega,AllLt.nil⟩⟩,by
       have:=dec_sub_step (x:=dx) (y:=dy) (d:=dx+10000-(bb+dy)) (b':=1) HV.out (by omega)
       unfold dval at *
       rw [val_snoc,HQ.out,take_step,take_step,←HX.out,←HY.out];exact this,
       hown1.set_other _ (by simp) _,((zA.alloc _).belowB hb1 (by omega)).far _ _ (by simp;omega),((zB.alloc _).belowB hb1 (by omega)).far _ _ (by simp),((zR.alloc _).belowB hb1 (by omega)).far _ _ (by simp),((zO.alloc _).belowB hb1 (by omega)).set1 _,
       ((hb.trans ((below_alloc wr _).mono hb.size)).trans (hb1.mono (by omega))).setCell (by simp;omega) _⟩
      case measure=>simp [intOf];omega
    ·have hdy:0=(zl x).getD k 0:=(getD_out _ _ (by omega)).symm
     have HX:=hid hdx
     have HY:=hid hdy
     clear hdx hdy
     by_cases hsum:bb≤dx
     ·go_wp2_with (at_builtin;refine wpList_push ei_int (by omega) rfl _ _ rfl (w.heap.size+1+1+1+1) Q (dx-(bb)) _ rfl (Own.alloc hown _) ⟨wr.heap.size,0,none⟩ rfl (cell_push _ _ _ _ _ (by omega)) (by rw [HQ.out];omega) (by simp;omega) ?_;intro v1 w1 hown1 hb1;obtain ⟨ao1,nn1,cap1,rfl⟩:=hown1.slice;obtain ⟨hc1,hf1⟩:=bcellB hb1)
      clear hsum
      go_roundw
      case rel=>exact ⟨k+1,0,Q++ [dx-(bb)],.slice ao1 nn1 cap1,by go_num,by go_num,by omega,by omega,by rw [List.length_append,HQ.out];rfl,AllLt.append.2 ⟨lQ,AllLt.cons.2 ⟨by omega,AllLt.nil⟩⟩,by
       have:=dec_sub_step (x:=dx) (y:=0) (d:=dx-(bb)) (b':=0) HV.out (by omega)
       unfold dval at *
       rw [val_snoc,HQ.out,take_step,take_step,←HX.out,←HY.out];exact this,
       hown1.set_other _ (by simp) _,((zA.alloc _).belowB hb1 (by omega)).far _ _ (by simp;omega),((zB.alloc _).belowB hb1 (by omega)).far _ _ (by simp),((zR.alloc _).belowB hb1 (by omega)).far _ _ (by simp),((zO.alloc _).belowB hb1 (by omega)).set1 _,
       ((hb.trans ((below_alloc wr _).mono hb.size)).trans (hb1.mono (by omega))).setCell (by simp;omega) _⟩
      case measure=>simp [intOf];omega
     ·go_wp2_with (at_builtin;refine wpList_push ei_int (by omega) rfl _ _ rfl (w.heap.size+1+1+1+1) Q (dx+10000-(bb)) _ rfl (Own.alloc hown _) ⟨wr.heap.size,0,none⟩ rfl (cell_push _ _ _ _ _ (by omega)) (by rw [HQ.out];omega) (by simp;omega) ?_;intro v1 w1 hown1 hb1;obtain ⟨ao1,nn1,cap1,rfl⟩:=hown1.slice;obtain ⟨hc1,hf1⟩:=bcellB hb1)
      go_roundw
      case rel=>exact ⟨k+1,1,Q++ [dx+10000-(bb)],.slice ao1 nn1 cap1,by go_num,by go_num,by omega,by omega,by rw [List.length_append,HQ.out];rfl,AllLt.append.2 ⟨lQ,AllLt.cons.2 ⟨by omega,AllLt.nil⟩⟩,by
       have:=dec_sub_step (x:=dx) (y:=0) (d:=dx+10000-(bb)) (b':=1) HV.out (by omega)
       unfold dval at *
       rw [val_snoc,HQ.out,take_step,take_step,←HX.out,←HY.out];exact this,
       hown1.set_other _ (by simp) _,((zA.alloc _).belowB hb1 (by omega)).far _ _ (by simp;omega),((zB.alloc _).belowB hb1 (by omega)).far _ _ (by simp),((zR.alloc _).belowB hb1 (by omega)).far _ _ (by simp),((zO.alloc _).belowB hb1 (by omega)).set1 _,
       ((hb.trans ((below_alloc wr _).mono hb.size)).trans (hb1.mono (by omega))).setCell (by simp;omega) _⟩
      case measure=>simp [intOf];omega
   ·have hke:k=(zl y).length:=by omega
    have hval:zof true (dval Q)=hsumV:=by
     have:=HV.out
     rw [hke,List.take_of_length_le (Nat.le_refl _),List.take_of_length_le hlen,dval_zl,dval_zl,←hke] at this
     rw [dec_sub_end this hbb (by have:=dval_lt Q lQ;rwa [HQ.out] at this) HLE.out];exact hfin.out
    have HF:=hid hval
    clear hval hke
    obtain ⟨ao1,cap1,rfl,hN1⟩:=hown.nz
    go_wp2_with fail
    have hfr: ∀p,ao1=some p→w.heap.size≤p.block:=fun p hp=>Nat.le_trans (by omega) (hown.fresh p hp)
    refine (trim_at _ _ _ _ _ hN1 lQ).mono ?_
    rw [HF.out]
    rintro e w2 ⟨cap2,rfl,hN2,hb2⟩
    have zR2:=zR.below hb2
    have k0:=zR2.1
    have k1:=zR2.2.1
    have f0:=zR2.2.2.1
    have f1:=zR2.2.2.2.1
    have hs2:=zR2.2.2.2.2
    go_wp2_with fail
    refine bodyPost_ret (by simp [results,Tryz.results76,go_sem,k0,k1];try rfl) rfl ?_
    exact ⟨_,_,rfl,(hN2.setCell hs2 (by decide) _ _).setCell (hs2.setCell _ _) (by decide) _ _,((below_trans hb hb2).setCell (by simp;omega) _).setCell (by simp;omega) _,hfr⟩
theorem zadd_fresh (a0 a1:Option Addr) (c0 c1:Nat) (x y:Int) (w:World) (h0:Nz 3 w a0 c0 (zl x)) (h1:Nz 3 w a1 c1 (zl y)) (hl0:(zl x).length≤4294967296) (hl1:(zl y).length≤4294967296):
 Calls Tryz.prog 76 #[.agg #[.bool (zneg x),.slice a0 (zl x).length c0],.agg #[.bool (zneg y),.slice a1 (zl y).length c1]] w fun e w'=>RetZF 3 w (x+y) e w':=by
 by_cases hs:zneg x=zneg y
 ·exact zadd_same a0 a1 c0 c1 x y w h0 h1 hl0 hl1 hs
 ·rcases Nat.lt_or_ge x.natAbs y.natAbs with h|h
  ·exact zadd_lt a0 a1 c0 c1 x y w h0 h1 hl1 hs h _ rfl
  ·exact zadd_ge a0 a1 c0 c1 x y w h0 h1 hl0 hs h _ rfl
theorem zadd_any (a0 a1:Option Addr) (c0 c1:Nat) (x y:Int) (w:World) (h0:Nz 3 w a0 c0 (zl x)) (h1:Nz 3 w a1 c1 (zl y)) (hl0:(zl x).length≤4294967296) (hl1:(zl y).length≤4294967296):
 Calls Tryz.prog 76 #[.agg #[.bool (zneg x),.slice a0 (zl x).length c0],.agg #[.bool (zneg y),.slice a1 (zl y).length c1]] w fun e w'=>RetZ 3 w (x+y) e w':=
 (zadd_fresh a0 a1 c0 c1 x y w h0 h1 hl0 hl1).mono fun _ _ h=>h.any
end Go.Proofs.YtehhegbkahnhgaaGreatDoor
namespace Go.Ulp
theorem ZL.drew {t:TypeId} {w:World} {g:Nat} {n:Bool} {v:Value} (h:ZL t w g n v):ZL t w.drew g n v:=h
theorem ZL.drewN {t:TypeId} {w:World} {g:Nat} {n:Bool} {v:Value} (h:ZL t w g n v) (k:Nat):ZL t (w.drewN k) g n v:=h
end Go.Ulp
namespace Go.Proofs.YtehhegbkahnhgaaGreatDoor
open Go.RowKit Go.Ulp
set_option maxHeartbeats 1000000
set_option maxRecDepth 100000
theorem zsub_fresh (a0 a1:Option Addr) (c0 c1:Nat) (x y:Int) (w:World) (h0:Nz 3 w a0 c0 (zl x)) (h1:Nz 3 w a1 c1 (zl y)) (hl0:(zl x).length≤4294967296) (hl1:(zl y).length≤4294967296):
 Calls Tryz.prog 61 #[.agg #[.bool (zneg x),.slice a0 (zl x).length c0],.agg #[.bool (zneg y),.slice a1 (zl y).length c1]] w fun e w'=>RetZF 3 w (x-y) e w':=by
 have hl2:(zl (-y)).length≤4294967296:=by unfold zl at *;rw [Int.natAbs_neg];exact hl1
 have E:=hid (show x+ -y=x-y by omega)
 go_enter Tryz.func61,Tryz.ntmps61
 go_wp2_with fail
 have zR':ZL 47 (((w.alloc (.cells #[.bool (zneg x),.slice a0 (zl x).length c0] 47)).alloc (.cells #[.bool (zneg y),.slice a1 (zl y).length c1] 47)).alloc (.cells #[.bool false,.slice none 0 0] 47)) (w.heap.size+1+1) false (.slice none 0 0):=ZL.made (by simp)
 have zR:=zR'.drew
 clear zR'
 go_region_with (first|(go_at_call 78;refine (zneg_any _ _ _ _ (h1.below (by (repeat' first|(with_reducible first|apply bR|assumption|apply bN|apply bD|apply bL|apply bS)|go_size)))).mono ?_;rintro e w1 ⟨ao,cap,rfl,hN,hb⟩;have h0w:=h0.below (below_trans (show Below w.heap.size w _ from by (repeat' first|(with_reducible first|apply bR|assumption|apply bN|apply bD|apply bL|apply bS)|go_size)) hb);have zR1:=zR.below hb;have yb:=below_trans (show Below w.heap.size w _ from by (repeat' first|(with_reducible first|apply bR|assumption|apply bN|apply bD|apply bL|apply bS)|go_size)) hb;obtain ⟨hc,hf⟩:=bcell hb)|(go_at_call 76;refine (zadd_fresh _ _ _ _ _ _ _ (by assumption) (by assumption) hl0 hl2).mono ?_;rw [E.out];rintro e w2 ⟨ao2,cap2,rfl,hN2,hb2,hfr2⟩;have zR2:=zR1.below hb2;have k0:=zR2.1;have k1:=zR2.2.1;have f0:=zR2.2.2.1;have f1:=zR2.2.2.2.1))
 all_goals
  have hs2:=zR2.2.2.2.2
  go_wp2_with fail
  refine bodyPost_ret (by simp [results,Tryz.results61,go_sem,k0,k1];try rfl) rfl ?_
  exact ⟨_,_,rfl,(hN2.setCell hs2 (by decide) _ _).setCell (hs2.setCell _ _) (by decide) _ _,((below_trans yb hb2).setCell (by first|omega|(simp;done)|(simp;omega)) _).setCell (by first|omega|(simp;done)|(simp;omega)) _,fun p hp=>Nat.le_trans yb.size (hfr2 p hp)⟩
theorem zsub_any (a0 a1:Option Addr) (c0 c1:Nat) (x y:Int) (w:World) (h0:Nz 3 w a0 c0 (zl x)) (h1:Nz 3 w a1 c1 (zl y)) (hl0:(zl x).length≤4294967296) (hl1:(zl y).length≤4294967296):
 Calls Tryz.prog 61 #[.agg #[.bool (zneg x),.slice a0 (zl x).length c0],.agg #[.bool (zneg y),.slice a1 (zl y).length c1]] w fun e w'=>RetZ 3 w (x-y) e w':=
 (zsub_fresh a0 a1 c0 c1 x y w h0 h1 hl0 hl1).mono fun _ _ h=>h.any
theorem zN_any (n:Nat) (hn:n<9223372036854775808) (w:World):
 Calls Tryz.prog 38 #[.int .i64 (n:Int)] w fun e w'=>RetZ 3 w (n:Int) e w':=by
 have hneg: ¬(n:Int)<0:=by omega
 go_enter Tryz.func38,Tryz.ntmps38
 go_wp2_with fail
 go_loopw [0,4] (fun r _ wr=> ∃(rr:Nat) (Q:List Nat) (v:Value),r=.int .i64 rr∧rr≤n∧dval Q+10000^Q.length*rr=n∧Dec Q∧(rr=0→Trim Q)∧Own (w.heap.size+1+1) 3 .i64 wr v Q∧ZL 47 wr w.heap.size false (.slice none 0 0)∧ZL 47 wr (w.heap.size+1) false v∧Below w.heap.size w wr) (fun r _ _=>(intOf r).toNat)
 case atStart=>exact ⟨n,[],_,rfl,Nat.le_refl _,by simp [dval,val],AllLt.nil,fun _ h=>absurd rfl h,Own.nil,(ZL.made rfl).alloc _,ZL.made (by simp),by (repeat' first|(with_reducible first|apply bR|assumption|apply bN|apply bD|apply bL|apply bS)|go_size)⟩
 case round=>
  obtain ⟨rr,Q,v,rfl,hrn,hv,lQ,hT,hown,zR,zO,hb⟩:=hrel
  have hsz:=zO.lt
  have HV:=hid hv
  clear hv
  obtain ⟨kO0,kO1,fO0,fO1,-⟩:=id zO
  obtain ⟨kR0,kR1,fR0,fR1,hsR⟩:=id zR
  by_cases h0:rr=0
  ·subst h0
   have hval:Q=zl (n:Int):=by
    have:=HV.out
    rw [Nat.mul_zero,Nat.add_zero] at this
    unfold zl;rw [Int.natAbs_natCast,←this]
    exact (digs_val 10000 (by omega) Q lQ (hT rfl)).symm
   have hz:=hid (show zneg (n:Int)=false by unfold zneg;simp)
   obtain ⟨ao1,cap1,rfl,hN1⟩:=hown.nz
   have HQ:=hid hval
   clear hval hT
   go_wp2_with fail
   refine bodyPost_ret (by simp [results,Tryz.results38,go_sem,kR0,kR1];try rfl) rfl ?_
   refine ⟨ao1,cap1,by rw [hz.out,←HQ.out],?_,(hb.setCell (by simp) _).setCell (by simp) _⟩
   rw [←HQ.out]
   exact (hN1.setCell hsR (by decide) _ _).setCell (hsR.setCell _ _) (by decide) _ _
  ·have hk:Q.length<64:=by
    rcases Nat.lt_or_ge Q.length 64 with h|h
    ·exact h
    ·exfalso
     have h1:10000^Q.length*1≤10000^Q.length*rr:=Nat.mul_le_mul_left _ (by omega)
     have h2:2^64≤10000^Q.length:=Nat.le_trans (Nat.pow_le_pow_left (by omega) 64) (Nat.pow_le_pow_right (by omega) h)
     have h3:=HV.out
     omega
   have hne:((rr:Int) !=0)=true:=by simp;omega
   clear hT
   go_wp2_with (at_builtin;refine wpList_push ei_int (by omega) rfl _ _ rfl (w.heap.size+1+1) Q (rr%10000) _ rfl (Own.alloc hown _) ⟨wr.heap.size,0,none⟩ rfl (cell_push _ _ _ _ _ (by omega)) (by omega) (by simp;omega) ?_;intro v1 w1 hown1 hb1;obtain ⟨ao1,nn1,cap1,rfl⟩:=hown1.slice;obtain ⟨hc1,hf1⟩:=bcellB hb1)
   go_roundw
   case rel=>exact ⟨rr/10000,Q++ [rr%10000],.slice ao1 nn1 cap1,by go_num,by omega,by
    have:=HV.out
    have e:=Nat.mod_add_div rr 10000
    have e2:=congrArg (fun z=>10000^Q.length*z) e
    simp only [Nat.mul_add] at e2
    unfold dval at *
    rw [val_snoc,List.length_append,List.length_singleton,Nat.pow_succ,Nat.mul_assoc];omega,AllLt.append.2 ⟨lQ,AllLt.cons.2 ⟨Nat.mod_lt _ (by omega),AllLt.nil⟩⟩,fun h=>by
    intro hn
    rw [List.getLast_append_of_ne_nil _ (by simp)];simp;omega,
    hown1.set_other _ (by simp) _,((zR.alloc _).belowB hb1 (by omega)).far _ _ (by simp),((zO.alloc _).belowB hb1 (by omega)).set1 _,((hb.trans ((below_alloc wr _).mono hb.size)).trans (hb1.mono (by omega))).setCell (by simp) _⟩
   case measure=>simp [intOf];omega
end Go.Proofs.YtehhegbkahnhgaaGreatDoor
namespace Go.Ulp
open Go.RowKit
/- short names for the chains -/
section
variable {P:Program} {w:World}
theorem run_push_nil {t ty e:TypeId} {k:IntKind} {bytes:Nat} (he:ElemInfo P t e k bytes) (base:Nat) (v:Value) (L:List Nat) (hown:Own base e k w v L) (ao:Option Addr) (c:Nat) (hao:ao=none):
 (Builtin.append_ #[t,t] ty #[v,.slice ao 0 c]).run P w=.ok v w:=by
 subst hao
 obtain ⟨ht,i,hi,hz,hsz,hb⟩:=he
 rcases hown.2 with ⟨rfl,_⟩|⟨g,cap,cur,rfl,_,_,hnc,_⟩
 ·simp [Builtin.append_,run_underlying ht,sizeOf,typeInfo,hi,Builtin.lenOf,Builtin.firstCells]
 ·simp [Builtin.append_,run_underlying ht,sizeOf,typeInfo,hi,Builtin.lenOf,Builtin.firstCells,hnc,storeCells]
theorem run_push {t ty e:TypeId} {k:IntKind} {bytes:Nat} (he:ElemInfo P t e k bytes) (hby:bytes≤8) (base:Nat) (v:Value) (L M:List Nat) (hown:Own base e k w v L) (ao:Option Addr) (c:Nat) (hN:Ns k w ao c M) (hlen:L.length+M.length≤8796093022207) (hbase:base≤w.heap.size):
 ∃v' w',(Builtin.append_ #[t,t] ty #[v,.slice ao M.length c]).run P w=.ok v' w'∧Own base e k w' v' (L++M)∧Below base w w':=by
 cases ao with
 |none=>
  have hM:M= []:=by
   rcases Nat.eq_zero_or_pos M.length with h|h
   ·exact List.length_eq_zero_iff.1 h
   ·obtain ⟨_,_,e,_⟩:=hN.2.2 h;cases e
  subst hM
  exact ⟨v,w,run_push_nil he base v L hown none c rfl,by rw [List.append_nil];exact hown,Below.refl _ _⟩
 |some ad=>
  have hb:(L.length+M.length)*bytes≤140737488355328:=by
   have:(L.length+M.length)*bytes≤(L.length+M.length)*8:=Nat.mul_le_mul_left _ hby
   omega
  obtain ⟨ht,i,hi,hz,hsz,hbb⟩:=he
  have hcells: ∀j u,(nums k M)[j]? =some u→w.cell? (ad.add j)=some u:=by
   intro j u hu
   have hj:j<M.length:=by
    rcases Nat.lt_or_ge j M.length with h|h
    ·exact h
    ·rw [List.getElem?_eq_none (by rw [nums_len];exact h)] at hu;cases hu
   obtain ⟨b,off,ea,hc⟩:=hN.2.2 (by omega)
   injection ea with ea
   subst ea
   rw [nums_at k M j hj] at hu
   injection hu with hu
   subst hu
   have h6:=hc j hj
   by_cases h0:j=0
   ·subst h0;simpa [Addr.add] using h6
   ·simpa [Addr.add,h0] using h6
  obtain ⟨v',w',hrun,h2,h3,_,h5⟩:=run_append_own_at (P:=P) w base t ty e i (.int k 0) 1 bytes ht hi hz hsz hbb rfl (by decide) v L.length (nums k L) hown ad M.length c (nums k M) (by rw [nums_len,Nat.mul_one]) hcells (by intro u hu;unfold nums at hu;obtain ⟨d,_,rfl⟩:=List.mem_map.1 hu;rfl) (by unfold maxLen;omega) hb hbase
  refine ⟨v',w',hrun,?_,?_⟩
  ·unfold Own
   rw [List.length_append]
   have e2:nums k (L++M)=nums k L++nums k M:=by unfold nums;rw [List.map_append]
   rw [e2];exact h2
  ·exact ⟨h3.os,h3.tape,h3.output,h3.size,fun b hbk=>h3.block b (by omega) (fun e=>by have:=(hown.lt b e.symm).1;omega)⟩
theorem step_push {ops:Array Oper} {o:Oper} {a:Act} {K:Act→World→Prop} {Q:Exit→Act→World→Prop} {E:Prop} {t e:TypeId} {k:IntKind} {bytes:Nat} (he:ElemInfo P t e k bytes) (hby:bytes≤8) (hgd:o.guard=none) (s x:Operand)
 (ho:o.op=.call {callee:=.builtin .append,args:= #[s,x],argTypes:= #[t,t]})
 (base:Nat) (L M:List Nat) (v:Value) (hs:a.eval s=v) (hown:Own base e k w v L) (ao:Option Addr) (c n:Nat) (hx:a.eval x=.slice ao n c) (hn:n=M.length) (hN:Ns k w ao c M) (hlen:L.length+M.length≤8796093022207) (hbase:base≤w.heap.size)
 (h: ∀v' w',Own base e k w' v' (L++M)→Below base w w'→K (a.put o.dst v') w'):if Region.wanted o (yielded ops a.tmps)=true then Oper.wp P o a w K Q else E:=by
 have hw:Region.wanted o (yielded ops a.tmps)=true:=by simp [Region.wanted,hgd]
 rw [if_pos hw]
 subst hn
 obtain ⟨v',w',hrun,h2,h3⟩:=run_push (P:=P) (ty:=o.type) he hby base v L M hown ao c hN hlen hbase
 unfold Oper.wp execOp
 simp only [ho,resolve,invoke,builtin,Sem.run_bind,Sem.run_pure,Result.andThen_ok,List.map_toArray,List.map_cons,List.map_nil,hs,hx,hrun]
 exact h v' w' h2 h3
theorem wpList_pushall {ops:Array Oper} {rest:List Oper} {o:Oper} {a:Act} {Q:Exit→Act→World→Prop} {t e:TypeId} {k:IntKind} {bytes:Nat} (he:ElemInfo P t e k bytes) (hby:bytes≤8) (hgd:o.guard=none) (s x:Operand)
 (ho:o.op=.call {callee:=.builtin .append,args:= #[s,x],argTypes:= #[t,t]})
 (base:Nat) (L M:List Nat) (v:Value) (hs:a.eval s=v) (hown:Own base e k w v L) (ao:Option Addr) (c n:Nat) (hx:a.eval x=.slice ao n c) (hn:n=M.length) (hN:Ns k w ao c M) (hlen:L.length+M.length≤8796093022207) (hbase:base≤w.heap.size)
 (h: ∀v' w',Own base e k w' v' (L++M)→Below base w w'→wpList P ops Q rest (a.put o.dst v') w'):wpList P ops Q (o::rest) a w:=by
 refine wpList_plain hgd fun K hK'=>?_
 subst hn
 obtain ⟨v',w',hrun,h2,h3⟩:=run_push (P:=P) (ty:=o.type) he hby base v L M hown ao c hN hlen hbase
 unfold Oper.wp execOp
 simp only [ho,resolve,invoke,builtin,Sem.run_bind,Sem.run_pure,Result.andThen_ok,List.map_toArray,List.map_cons,List.map_nil,hs,hx,hrun]
 exact hK' _ _ (h v' w' h2 h3)
end
def RV (tz ti:TypeId) (f:Nat) (w:World) (g:Nat) (x:Int):Prop:=
 ∃ao cap,ZL tz w g (zneg x) (.slice ao (zl x).length cap)∧Nz ti w ao cap (zl x)∧ ∀p,ao=some p→p.block≠f
theorem RV.below {tz ti:TypeId} {f:Nat} {w w':World} {g:Nat} {x:Int} (h:RV tz ti f w g x) (hb:Below w.heap.size w w'):RV tz ti f w' g x:=by
 obtain ⟨ao,cap,h1,h2,h3⟩:=h
 exact ⟨ao,cap,h1.below hb,h2.below hb,h3⟩
theorem RV.drew {tz ti:TypeId} {f:Nat} {w:World} {g:Nat} {x:Int} (h:RV tz ti f w g x):RV tz ti f w.drew g x:=h.below (Below.drew (Below.refl _ _))
theorem RV.alloc {tz ti:TypeId} {f:Nat} {w:World} {g:Nat} {x:Int} (h:RV tz ti f w g x) (o:Obj):RV tz ti f (w.alloc o) g x:=h.below (below_alloc _ _)
theorem RV.lt {tz ti:TypeId} {f:Nat} {w:World} {g:Nat} {x:Int} (h:RV tz ti f w g x):g<w.heap.size:=by obtain ⟨_,_,h1,_⟩:=h;exact h1.lt
theorem RV.set2 {tz ti:TypeId} {f:Nat} {w:World} {g b:Nat} {x:Int} (h:RV tz ti f w g x) (hs:ElemIs w b tz) (hne:tz≠ti) (hgb:g≠b) (u v:Value):RV tz ti f ((w.setCell ⟨b,0,none⟩ u).setCell ⟨b,1,none⟩ v) g x:=by
 obtain ⟨ao,cap,h1,h2,h3⟩:=h
 exact ⟨ao,cap,(h1.far _ _ hgb).far _ _ hgb,(h2.setCell hs hne 0 u).setCell (hs.setCell _ _) hne 1 v,h3⟩
theorem RV.setf {tz ti:TypeId} {f:Nat} {w:World} {g:Nat} {x:Int} (h:RV tz ti f w g x) (hgf:g≠f) (o:Nat) (u:Value):RV tz ti f (w.setCell ⟨f,o,none⟩ u) g x:=by
 obtain ⟨ao,cap,h1,h2,h3⟩:=h
 refine ⟨ao,cap,h1.far _ _ hgf,⟨h2.1.setCell_far _ _ (fun hp b off he hb=>?_),fun hp b off he=>(h2.2 hp b off he).setCell _ _⟩,h3⟩
 exact h3 _ he (by simpa using hb.symm)
theorem RV.store {tz ti:TypeId} {f:Nat} {w:World} {g:Nat} {n:Bool} {v:Value} {y:Int} {ao:Option Addr} {cap:Nat} (h:ZL tz w g n v) (hN:Nz ti w ao cap (zl y)) (hne:tz≠ti) (hf: ∀p,ao=some p→p.block≠f):
 RV tz ti f ((w.setCell ⟨g,0,none⟩ (.bool (zneg y))).setCell ⟨g,1,none⟩ (.slice ao (zl y).length cap)) g y:=
 ⟨ao,cap,(h.set0 _).set1 _,(hN.setCell h.2.2.2.2 hne 0 _).setCell (h.2.2.2.2.setCell _ _) hne 1 _,hf⟩
theorem RV.made {tz ti:TypeId} {f:Nat} {w:World} {g:Nat} {y:Int} {ao:Option Addr} {cap:Nat} (hg:g=w.heap.size) (hN:Nz ti w ao cap (zl y)) (hf: ∀p,ao=some p→p.block≠f):
 RV tz ti f (w.alloc (.cells #[.bool (zneg y),.slice ao (zl y).length cap] tz)) g y:=
 ⟨ao,cap,ZL.made hg,hN.below (below_alloc _ _),hf⟩
def KV (tz:TypeId) (w:World) (l:List (Nat×Bool×Value)):Prop:= ∀e∈l,ZL tz w e.1 e.2.1 e.2.2
theorem KV.below {tz:TypeId} {w w':World} {l:List (Nat×Bool×Value)} (h:KV tz w l) (hb:Below w.heap.size w w'):KV tz w' l:=fun e he=>(h e he).below hb
theorem KV.drew {tz:TypeId} {w:World} {l:List (Nat×Bool×Value)} (h:KV tz w l):KV tz w.drew l:=h
theorem KV.far {tz:TypeId} {w:World} {l:List (Nat×Bool×Value)} (h:KV tz w l) (a:Addr) (u:Value) (hne: ∀e∈l,e.1≠a.block):KV tz (w.setCell a u) l:=fun e he=>(h e he).far a u (hne e he)
theorem KV.far2 {tz:TypeId} {w:World} {l:List (Nat×Bool×Value)} (h:KV tz w l) {b:Nat} (hne: ∀e∈l,e.1≠b) (u v:Value):KV tz ((w.setCell ⟨b,0,none⟩ u).setCell ⟨b,1,none⟩ v) l:=(h.far _ _ hne).far _ _ hne
theorem Own.far {base:Nat} {e:TypeId} {k:IntKind} {w:World} {g n cap:Nat} {L:List Nat} (h:Own base e k w (.slice (some ⟨g,0,none⟩) n cap) L) (a:Addr) (hne:a.block≠g) (u:Value):Own base e k (w.setCell a u) (.slice (some ⟨g,0,none⟩) n cap) L:=by
 obtain ⟨h1,h2⟩:=h
 refine ⟨h1,?_⟩
 rcases h2 with hn|⟨g',cap',cur,hv,hg,hh,rest⟩
 ·exact .inl hn
 ·refine .inr ⟨g',cap',cur,hv,hg,?_,rest⟩
  injection hv with h3 _ _
  injection h3 with h3
  have h4:g=g':=by simpa using congrArg Addr.block h3
  subst h4
  rw [Below.heap_setCell _ _ _ _ (fun e=>hne e.symm)];exact hh
end Go.Ulp
