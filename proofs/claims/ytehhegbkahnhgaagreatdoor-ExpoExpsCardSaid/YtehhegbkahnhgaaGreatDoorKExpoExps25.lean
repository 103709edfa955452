/- ExpoExps: what the proof leans on, part 25 (ZI Sf3). -/
import Derived.Test.YtehhegbkahnhgaaGreatDoorKExpoExps9
import Derived.Test.YtehhegbkahnhgaaGreatDoorKExpoExps22
import Derived.Test.YtehhegbkahnhgaaGreatDoorKExpoExps24
set_option linter.unusedVariables false
set_option linter.unusedSimpArgs false
namespace Go.Ulp
open Go.RowKit
theorem dval_drop_le (L:List Nat) (k:Nat) (h:k≤L.length):dval (L.drop k)≤dval L:=by
 have h1:=val_take_drop 10000 L k h
 have h2:0<10000^k:=Nat.pow_pos (by omega)
 have h3:dval L=val 10000 (L.take k)+10000^k*val 10000 (L.drop k):=h1
 have h4:=Nat.le_mul_of_pos_left (val 10000 (L.drop k)) h2
 show val 10000 (L.drop k)≤_
 omega
end Go.Ulp
namespace Go.Proofs.YtehhegbkahnhgaaGreatDoor
open Go.RowKit Go.Ulp
set_option maxHeartbeats 2000000
set_option maxRecDepth 100000
theorem zInt_any (x:Int) (a0:Option Addr) (c0:Nat) (w:World) (h0:Nz 3 w a0 c0 (zl x)) (hx: -4611686018427387904≤x∧x≤4611686018427387904):
 Calls Tryz.prog 54 #[.agg #[.bool (zneg x),.slice a0 (zl x).length c0]] w fun e w'=>e=.returned (.int .i64 x)∧Below w.heap.size w w':=by
 have HL:=hid (zl_dec x)
 have hcap:=h0.1.1
 have hcap2:=h0.1.2.1
 unfold maxLen at hcap2
 have H3:=hid h0.1.2.2
 have HV:=hid (dval_zl x)
 have hng:zneg x=decide (x<0):=rfl
 obtain ⟨L,hL⟩: ∃L,L=zl x:=⟨_,rfl⟩
 rw [←hL] at HL H3 HV hcap ⊢
 obtain ⟨N,hN⟩: ∃N,N=L.length:=⟨_,rfl⟩
 have DS:=hid (show ∀i,i<N→dval (L.drop i)=L.getD i 0+10000*dval (L.drop (i+1)) from fun i hi=>dval_drop L i (by omega))
 have DL:=hid (show ∀i,i≤N→dval (L.drop i)≤4611686018427387904 from fun i hi=>by have:=dval_drop_le L i (by omega);have:=HV.out;omega)
 have DE:=hid (show dval (L.drop N)=0 from by rw [List.drop_of_length_le (by omega)];rfl)
 have D0:=hid (show dval (L.drop 0)=x.natAbs from by rw [List.drop_zero];exact HV.out)
 rw [←hN] at H3 hcap ⊢
 have zA:ZL 47 (w.alloc (.cells #[.bool (zneg x),.slice a0 N c0] 47)) w.heap.size (zneg x) (.slice a0 N c0):=ZL.made rfl
 have yb:=below_alloc w (.cells #[.bool (zneg x),.slice a0 N c0] 47)
 obtain ⟨W0,hW0⟩: ∃W,W=w.alloc (.cells #[.bool (zneg x),.slice a0 N c0] 47):=⟨_,rfl⟩
 rw [←hW0] at zA yb
 have HC:=hid (show ∀i,i<N→ ∃b off,a0=some ⟨b,off,none⟩∧W0.cell? ⟨b,off+i,none⟩=some (.int .i64 ((L.getD i 0:Nat):Int)) from fun i hi=>by
  obtain ⟨b,off,e,hc⟩:=H3.out (by omega)
  exact ⟨b,off,e,(yb.cell (p:=⟨b,off+i,none⟩) (World.block_lt_of_cell? _ _ (hc i hi))).trans (hc i hi)⟩)
 obtain ⟨B,hB⟩: ∃b,b=zneg x:=⟨_,rfl⟩
 rw [←hB] at zA hW0 ⊢
 rw [hng] at hB
 have HB:=hid hB
 clear h0 hL hN hng hB H3 HL HV
 go_enter Tryz.func54,Tryz.ntmps54
 go_upto_region 1 with fail
 rw [←hW0]
 clear hW0
 obtain ⟨j0,j1,-,-,-⟩:=id zA
 go_wp2_with fail
 go_loopw [3,4] (fun s3 s4 wr=> ∃k:Int,-1≤k∧k<N∧s4=.int .i64 k∧s3=.int .i64 (dval (L.drop (k+1).toNat):Int)∧wr=W0) (fun _ s4 _=>(intOf s4+1).toNat)
 case atStart=>exact ⟨(N:Int)-1,by omega,by omega,rfl,by rw [show ((N:Int)-1+1).toNat=N by omega,DE.out];rfl,rfl⟩
 case round=>
  obtain ⟨k,hk1,hk2,rfl,rfl,rfl⟩:=hrel
  by_cases hk:k<0
  ·have hcc: ¬0≤k:=by omega
   have hT:dval (L.drop (k+1).toNat)=x.natAbs:=by rw [show (k+1).toNat=0 by omega];exact D0.out
   rw [hT]
   clear hT DS DL DE D0 HC hk1 hk2 hk
   obtain ⟨n,hn⟩: ∃n,n=x.natAbs:=⟨_,rfl⟩
   rw [←hn]
   have hn8:n≤4611686018427387904:=by omega
   have hw1:IntKind.i64.wrap (-(n:Int))= -(n:Int):=IntWalk.i64_in _ (by omega)
   have HF:=hid (show x=if B=true then -(n:Int) else (n:Int) by
    rw [HB.out,hn];by_cases h:x<0
    ·rw [decide_eq_true h,if_pos rfl];omega
    ·rw [decide_eq_false h,if_neg (by simp)];omega)
   clear hn HB hx
   cases B
   ·have HF2:=hid (show x=(n:Int) from HF.out)
    clear HF
    go_wp2_with fail
    go_ret
    exact ⟨by rw [HF2.out];rfl,yb⟩
   ·have HF2:=hid (show x= -(n:Int) from HF.out)
    clear HF
    go_wp2_with fail
    go_ret
    exact ⟨by rw [HF2.out];rfl,yb⟩
  ·obtain ⟨i,rfl⟩:=Int.eq_ofNat_of_zero_le (show 0≤k by omega)
   obtain ⟨b,off,rfl,hcell⟩:=HC.out i (by omega)
   have hst:=DS.out i (by omega)
   have hle:=DL.out i (by omega)
   rw [show ((i:Int)+1).toNat=i+1 by omega]
   obtain ⟨d,hd⟩: ∃d,d=L.getD i 0:=⟨_,rfl⟩
   obtain ⟨m,hm⟩: ∃m,m=dval (L.drop (i+1)):=⟨_,rfl⟩
   rw [←hd] at hcell hst
   rw [←hm] at hst ⊢
   have HST:=hid hst
   have hb8:d+10000*m≤4611686018427387904:=by omega
   have hw1:IntKind.i64.wrap (10000*(m:Int))=10000*(m:Int):=IntWalk.i64_in _ (by omega)
   have hw2:IntKind.i64.wrap (10000*(m:Int)+(d:Int))=10000*(m:Int)+(d:Int):=IntWalk.i64_in _ (by omega)
   have hw3:IntKind.i64.wrap ((i:Int)-1)=(i:Int)-1:=IntWalk.i64_in _ (by omega)
   clear hd hm hst hle DS DL DE D0 HC
   go_wp2_with fail
   go_roundw
   case rel=>exact ⟨(i:Int)-1,by omega,by omega,rfl,by rw [show ((i:Int)-1+1).toNat=i by omega,HST.out];congr 1;omega,by first|rfl|trivial⟩
   case measure=>first|(simp [intOf];done)|(simp [intOf];omega)
theorem zIntD (v:Value) (x:Int) (w:World) (hv:ZD 3 w x v) (hx: -4611686018427387904≤x∧x≤4611686018427387904):Calls Tryz.prog 54 #[v] w fun e w'=>e=.returned (.int .i64 x)∧Below w.heap.size w w':=by
 obtain ⟨a,c,rfl,h⟩:=hv
 exact zInt_any x a c w h hx
end Go.Proofs.YtehhegbkahnhgaaGreatDoor
namespace Go.Ulp
open Go.RowKit
theorem val_of (N n m:Nat) (x0:Int) (h:nrm (N:Int) (-(n:Int))=nrm (m:Int) x0):((2^n:Nat):Rat)*dyQ m x0=(N:Rat):=by
 obtain ⟨k,a1,a2⟩:=nrm_rep (N:Int) (-(n:Int))
 obtain ⟨l,b1,b2⟩:=nrm_rep (m:Int) x0
 rw [h] at a1 a2
 have key:m*(2^n*2^x0.toNat)=N*2^(-x0).toNat:=by
  by_cases hm:m=0
  ·have h0:(nrm (m:Int) x0).1=0:=by rw [hm];rfl
   rw [h0,Int.zero_mul] at a1
   have:N=0:=by omega
   rw [hm,this,Nat.zero_mul,Nat.zero_mul]
  ·have hN:(N:Int)≠0:=fun hN=>by
    have h1:=(nrm_zero_iff (N:Int) (-(n:Int))).2 hN
    rw [h] at h1
    exact hm (by have:=(nrm_zero_iff (m:Int) x0).1 h1;omega)
   have a2:=a2 hN
   have b2:=b2 (by omega)
   apply Int.ofNat_inj.1
   rw [Int.natCast_mul,Int.natCast_mul,Int.natCast_mul,←pw_nat,←pw_nat,←pw_nat]
   generalize (nrm (m:Int) x0).1=y at *
   rw [a1,b1,Int.mul_assoc,Int.mul_assoc,←pw_add,←pw_add,←pw_add]
   congr 2
   omega
 apply Rat.le_antisymm
 all_goals
  apply Rat.le_of_mul_le_mul_left _ (pow2_pos (-x0).toNat)
  have e:=dyQ_eq m x0
  have key2:((m*(2^n*2^x0.toNat):Nat):Rat)=((N*2^(-x0).toNat:Nat):Rat):=by rw [key]
  rw [cast_mul,cast_mul,cast_mul,two_cast,two_cast,two_cast] at key2
  rw [two_cast]
  have e2:(2:Rat)^(-x0).toNat*((2:Rat)^n*dyQ m x0)=(2:Rat)^(-x0).toNat*(N:Rat):=by grind
  rw [e2]
  exact Rat.le_refl
theorem sg_neg_iff {neg:Bool} {m:Nat} (hm:0<m):(sg neg (m:Int)<0)↔neg=true:=by
 cases neg
 ·show (m:Int)<0↔_
  constructor
  ·intro h;omega
  ·intro h;cases h
 ·show -(m:Int)<0↔_
  constructor
  ·intro _;rfl
  ·intro _;omega
theorem sign_of (X:Int) (n m:Nat) (x0:Int) (neg:Bool) (h:nrm X (-(n:Int))=nrm (sg neg (m:Int)) x0) (hm:0<m):zneg X=neg:=by
 obtain ⟨k,a1,-⟩:=nrm_rep X (-(n:Int))
 obtain ⟨l,b1,-⟩:=nrm_rep (sg neg (m:Int)) x0
 rw [h] at a1
 generalize (nrm (sg neg (m:Int)) x0).1=y at *
 have p1:=pw_pos k
 have p2:=pw_pos l
 have e:=sg_neg_iff (neg:=neg) hm
 rw [b1] at e
 have f1:(X<0)↔(y<0):=by
  rw [a1]
  constructor
  ·intro h2;exact Int.lt_of_not_ge fun h3=>by have:=Int.mul_nonneg h3 (Int.le_of_lt p1);omega
  ·intro h2;exact Int.mul_neg_of_neg_of_pos h2 p1
 have f2:(y*pw l<0)↔(y<0):=by
  constructor
  ·intro h2;exact Int.lt_of_not_ge fun h3=>by have:=Int.mul_nonneg h3 (Int.le_of_lt p2);omega
  ·intro h2;exact Int.mul_neg_of_neg_of_pos h2 p2
 unfold zneg
 have f3:(X<0)↔neg=true:=by rw [f1,←f2];exact e
 cases neg
 ·exact decide_eq_false (by rw [f3];simp)
 ·exact decide_eq_true (f3.2 rfl)
theorem bE_top {y:PP} {t N:Nat} (h:BeOK y t N) (x:Rat) (x0:0≤x) (x1:x≤1) (h1:(y.1:Rat)≤((10^t:Nat):Rat)*x) (h2:((10^t:Nat):Rat)*x≤(y.2:Rat)):(up9 (beS y (10^t) N)).1≤(up9 (beS y (10^t) N)).2∧(up9 (beS y (10^t) N)).2≤10^t*2^3:=by
 have hD:=Nat.pow_pos (n:=t) (show 0<10 by omega)
 have i:=bothE_in y (10^t) hD x x0 x1 h1 h2 N h.n1 h.e1
 have tp:=i.top x0 1 (by have:((1:Nat):Rat)=1:=rfl
                         grind)
 obtain ⟨wa,la,-⟩:=bS_wd (ten12 h.t0) h.h1 h.h2 h.h3 N
 have hn:=h.n2
 have h20:10^20≤10^t:=Nat.pow_le_pow_right (by omega) h.t0
 have e20:8*(12000000002+1)+9≤10^20:=by decide
 show (beS y (10^t) N).1≤(beS y (10^t) N).2+9∧(beS y (10^t) N).2+9≤_
 have tp2:(beS y (10^t) N).1≤10^t*2^(2*1):=tp
 generalize 10^t=D at *
 omega
structure EbOK (N b t n1 n2:Nat):Prop where
 hb:0<b
 t0:20≤t
 t1:t≤3000000000
 b1:BeOK (10^t,10^t) t n1
 b2:BeOK (frB (N%b) b (10^t)) t n2
 w:N/b≤800
theorem ebOK_ex (N b t:Nat) (hb:0<b) (t0:20≤t) (t1:t≤3000000000) (w:N/b≤800): ∃n1 n2,EbOK N b t n1 n2:=by
 obtain ⟨n1,h1⟩:=beOK_ex (10^t,10^t) t t0 t1 (Nat.le_refl _) (Nat.le_refl _) (Nat.le_succ _)
 obtain ⟨f1,f2,f3⟩:=frB_ok (N%b) b (10^t) hb (Nat.mod_lt _ hb)
 obtain ⟨n2,h2⟩:=beOK_ex (frB (N%b) b (10^t)) t t0 t1 f1 f2 f3
 exact ⟨n1,n2,hb,t0,t1,h1,h2,w⟩
theorem EbOK.tops {N b t n1 n2:Nat} (h:EbOK N b t n1 n2) (y:Rat) (hy:(b:Rat)*y=(N:Rat)):
 ((up9 (beS (10^t,10^t) (10^t) n1)).1≤(up9 (beS (10^t,10^t) (10^t) n1)).2∧(up9 (beS (10^t,10^t) (10^t) n1)).2≤10^t*2^3)∧
 ((up9 (beS (frB (N%b) b (10^t)) (10^t) n2)).1≤(up9 (beS (frB (N%b) b (10^t)) (10^t) n2)).2∧(up9 (beS (frB (N%b) b (10^t)) (10^t) n2)).2≤10^t*2^3):=by
 have hD:=Nat.pow_pos (n:=t) (show 0<10 by omega)
 obtain ⟨x,x0,x1,hx,-⟩:=frac_parts N b h.hb y hy
 have f:=frB_in (N%b) b (10^t) h.hb x hx
 exact ⟨bE_top h.b1 1 (by grind) (by grind) (by show ((10^t:Nat):Rat)≤_;grind) (by show _≤((10^t:Nat):Rat);grind),bE_top h.b2 x x0 x1 f.1 f.2⟩
theorem EbOK.sizes {N b t n1 n2:Nat} (h:EbOK N b t n1 n2) (y:Rat) (hy:(b:Rat)*y=(N:Rat)):
 Sz t (bPow (up9 (beS (10^t,10^t) (10^t) n1)) (10^t) (N/b) (N/b))∧Sz t (up9 (beS (frB (N%b) b (10^t)) (10^t) n2))∧Sz t (eB N b (10^t) n1 n2)∧0<(eB N b (10^t) n1 n2).1∧0<(eB N b (10^t) n1 n2).2:=by
 have hD:=Nat.pow_pos (n:=t) (show 0<10 by omega)
 obtain ⟨⟨a1,a2⟩,⟨f1,f2⟩⟩:=h.tops y hy
 obtain ⟨p1,p2⟩:=bPow_top hD a1 a2 (N/b) (N/b) (Nat.le_refl _)
 have w:=h.w
 have low:=eB_low N b (10^t) n1 n2 h.hb (ten12 h.t0)
 have m1:(eB N b (10^t) n1 n2).1≤(eB N b (10^t) n1 n2).2:=bMul_mono p1 f1
 have m2:(eB N b (10^t) n1 n2).2≤10^t*2^(6*(N/b)-1+3+1):=bMul_top hD p2 f2
 exact ⟨sz_of p1 (by omega) p2,sz_of f1 (by omega) f2,sz_of m1 (by omega) m2,by omega,by omega⟩
def erP (x:PP) (D:Nat) (neg:Bool):PP:=if neg then (D*D/x.2,D*D/x.1+1) else x
def GoodR (m:Nat) (x0:Int) (neg:Bool) (t:Nat) (x:PP):Prop:= ∃N b n1 n2:Nat,(b:Rat)*dyQ m x0=(N:Rat)∧EbOK N b t n1 n2∧x=erP (eB N b (10^t) n1 n2) (10^t) neg
def RetER (ti:TypeId) (w:World) (m:Nat) (x0:Int) (neg:Bool) (t:Nat) (en:Ending) (w':World):Prop:= ∃x:PP,GoodR m x0 neg t x∧RetPZ ti w x en w'
def Fact.qn (ti:TypeId) (r n:Nat):Fact:=⟨fun v w=> ∃a c,v=.agg #[.bool false,.slice a (zl (r:Int)).length c,.int .i64 (n:Int)]∧Nz ti w a c (zl (r:Int)),fun _ _ _ h hb=>by
 obtain ⟨a,c,h1,h2⟩:=h;exact ⟨a,c,h1,h2.below hb⟩⟩
def Fact.b0 (B:Nat) (t:TypeId):Fact:=⟨fun v w=> ∃g,v=.pointer (some ⟨g,0,none⟩)∧B≤g∧BC t w g false (.slice none 0 0) false (.slice none 0 0),fun _ _ _ h hb=>by
 obtain ⟨g,h1,h2,h3⟩:=h;exact ⟨g,h1,h2,h3.below hb⟩⟩
end Go.Ulp
namespace Go.Proofs.YtehhegbkahnhgaaGreatDoor
open Go.RowKit Go.Ulp
set_option maxHeartbeats 4000000
set_option maxRecDepth 100000
theorem eBounds_any (neg:Bool) (m:Nat) (x0:Int) (t:Nat) (v:Value) (w:World) (hv:QD 3 w (nrm (sg neg (m:Int)) x0) 400000 200000 v) (hm:0<m) (h8:dyQ m x0≤((800:Nat):Rat)) (t0:20≤t) (t1:t≤3000000000):
 Calls Tryz.prog 57 #[v,.int .i64 (t:Int)] w (RetER 3 w m x0 neg t):=by
 have QA:=hid (fun v w h=>qabs_any v (nrm (sg neg (m:Int)) x0) 400000 200000 w h (by omega) (by omega))
 rw [show absD (nrm (sg neg (m:Int)) x0)=nrm (m:Int) x0 by rw [←nrm_natAbs,sg_abs,Int.natAbs_natCast]] at QA
 obtain ⟨X,n,a,c,rfl,h0,hX,hXA,hn⟩:=hv
 have hsg:=sign_of X n m x0 neg hX hm
 have QA1:=hid (fun w h=>QA.out (.agg #[.bool (zneg X),.slice a (zl X).length c,.int .i64 (n:Int)]) w ⟨X,n,a,c,rfl,h,hX,hXA,hn⟩)
 rw [hsg] at QA1 ⊢
 clear QA
 obtain ⟨la,hla⟩: ∃l,l=(zl X).length:=⟨_,rfl⟩
 have H0:=hid h0
 rw [←hla] at QA1 ⊢
 have zA:QL 49 ((w.alloc (.cells #[.bool neg,.slice a la c,.int .i64 (n:Int)] 49)).alloc (.cells #[.bool false,.slice none 0 0,.bool false,.slice none 0 0] 63)) w.heap.size neg (.slice a la c) (n:Int):=(QL.made rfl).below (below_alloc _ _)
 have zR:BC 63 ((w.alloc (.cells #[.bool neg,.slice a la c,.int .i64 (n:Int)] 49)).alloc (.cells #[.bool false,.slice none 0 0,.bool false,.slice none 0 0] 63)) (w.heap.size+1) false (.slice none 0 0) false (.slice none 0 0):=BC.made (by simp)
 have yb0:Below w.heap.size w ((w.alloc (.cells #[.bool neg,.slice a la c,.int .i64 (n:Int)] 49)).alloc (.cells #[.bool false,.slice none 0 0,.bool false,.slice none 0 0] 63)):=by (repeat' first|(with_reducible first|assumption|apply bR|apply bA|apply bN|apply bD|apply bL|apply bS)|refine bT ?_ (by assumption)|go_size)
 clear h0 hla hsg hX hXA
 go_enter Tryz.func57,Tryz.ntmps57
 go_upto_region 1 with fail
 refine wp_worldZ (fun WW=>Below w.heap.size w WW∧QL 49 WW w.heap.size neg (.slice a la c) (n:Int)∧BC 63 WW (w.heap.size+1) false (.slice none 0 0) false (.slice none 0 0)) ⟨yb0,zA,zR⟩ ?_
 clear zA zR yb0
 intro W1 ⟨yb1,zA,zR⟩
 obtain ⟨⟨j0,j1,-⟩,j2,-⟩:=id zA
 go_upto_region 2 with (go_at_call 36;(with_reducible refine (QA1.out _ (H0.out.below yb1)).mono ?_);rintro en w2 ⟨v2,rfl,⟨Y,n',a5,c5,rfl,h5,hY,hYA,hn'⟩,hb2⟩)
 obtain ⟨N,rfl⟩: ∃N:Nat,Y=(N:Int):=by
  have e:=sign_of Y n' m x0 false hY hm
  unfold zneg at e
  exact Int.eq_ofNat_of_zero_le (by have:=of_decide_eq_false e;omega)
 have hval:=val_of N n' m x0 hY
 have hbp:0<2^n':=Nat.two_pow_pos n'
 have hw8:N/2^n'≤800:=by
  apply Nat.div_le_of_le_mul
  apply Rat.natCast_le_natCast.1
  rw [cast_mul]
  have:=Rat.mul_le_mul_of_nonneg_left h8 (Rat.natCast_nonneg (a:=2^n'))
  rw [hval] at this
  exact this
 obtain ⟨n1,n2,hE⟩:=ebOK_ex N (2^n') t hbp t0 t1 hw8
 obtain ⟨szP,szF,szE,ps1,ps2⟩:=hE.sizes (dyQ m x0) hval
 obtain ⟨⟨ta1,ta2⟩,-⟩:=hE.tops (dyQ m x0) hval
 have lN:(zl (N:Int)).length≤4000000000:=Nat.le_trans (zl_len_bits _ _ hYA) (by omega)
 have lB:(zl ((2^n':Nat):Int)).length≤1000000000:=Nat.le_trans (zl_len_pow n') (by omega)
 have hr:N%2^n'≤10^100000:=by
  have a1:=Nat.mod_lt N hbp
  obtain ⟨z,hz⟩: ∃z,z=100000:=⟨_,rfl⟩
  rw [←hz]
  have a2:2^n'≤2^(3*z):=Nat.pow_le_pow_right (by omega) (by omega)
  have a3:2^(3*z)≤10^z:=by rw [Nat.pow_mul];exact Nat.pow_le_pow_left (by omega) _
  exact Nat.le_trans (Nat.le_of_lt a1) (Nat.le_trans a2 a3)
 have HRR:=hid hr
 clear hr hYA
 have TN:=hid (fun w=>zTenN t w (by omega))
 have TN2:=hid (show ∀w,Calls Tryz.prog 60 #[.int .i64 (2*(t:Int))] w (RetZD 3 w ((10^t*10^t:Nat):Int)) from fun w=>by
  have h:=zTenN (t+t) w (by omega)
  rw [Nat.pow_add] at h
  rw [show (2*(t:Int))=((t+t:Nat):Int) by omega]
  exact h)
 have ZP:=hid (show ∀w,Calls Tryz.prog 82 #[.int .i64 (n':Int)] w (RetZD 3 w ((2^n':Nat):Int)) from fun w=>zpowD n' w (by omega))
 have ZDv:=hid (fun v u w h k=>zdivN v u N (2^n') w h k lN lB hbp)
 have ZI:=hid (fun v w h=>zIntD v ((N/2^n':Nat):Int) w h ⟨Int.le_trans (by omega) (Int.natCast_nonneg _),Int.le_trans (Int.ofNat_le.2 hw8) (by omega)⟩)
 have BE1:=hid (fun v w h=>bothE_any (10^t,10^t) t n1 v w h hE.b1)
 have BP:=hid (fun v w h=>bothPow_aux (up9 (beS (10^t,10^t) (10^t) n1)) t ta1 ta2 t1 (N/2^n') (N/2^n') v w (Nat.le_refl _) hw8 h)
 have TB:=hid (show ∀v w,(Fact.qn 3 (N%2^n') n').holds v w→Calls Tryz.prog 101 #[v,.int .i64 (t:Int)] w (RetPZ 3 w (frB (N%2^n') (2^n') (10^t))) from fun v w h=>by
  obtain ⟨a,c,rfl,h1⟩:=h
  exact tenBoth_any (N%2^n') n' t a c w h1 HRR.out (by omega) (by omega))
 have BE2:=hid (fun v w h=>bothE_any (frB (N%2^n') (2^n') (10^t)) t n2 v w h hE.b2)
 have BM:=hid (fun v u w h k=>bothMul_any (bPow (up9 (beS (10^t,10^t) (10^t) n1)) (10^t) (N/2^n') (N/2^n')) (up9 (beS (frB (N%2^n') (2^n') (10^t)) (10^t) n2)) t (t+1650) v u w h k (by omega) (by omega) szP.1 szP.2 szF.1 szF.2)
 have GR:=hid (show ∀x,x=erP (eB N (2^n') (10^t) n1 n2) (10^t) neg→GoodR m x0 neg t x from fun x h=>⟨N,2^n',n1,n2,hval,hE,h⟩)
 change Hid (∀v u w,PZ 3 w _ v→PZ 3 w _ u→Calls Tryz.prog 98 #[v,u,.int .i64 (t:Int)] w (RetPZ 3 w (eB N (2^n') (10^t) n1 n2))) at BM
 generalize eB N (2^n') (10^t) n1 n2=E0 at *
 generalize up9 (beS (frB (N%2^n') (2^n') (10^t)) (10^t) n2)=F at *
 generalize frB (N%2^n') (2^n') (10^t)=F0 at *
 generalize bPow (up9 (beS (10^t,10^t) (10^t) n1)) (10^t) (N/2^n') (N/2^n')=Pw at *
 generalize up9 (beS (10^t,10^t) (10^t) n1)=A1 at *
 have lDD:(zl ((10^t*10^t:Nat):Int)).length≤4000000000:=by
  have:=zl_le10 (mul10 (Nat.le_refl (10^t)) (Nat.le_refl (10^t)));omega
 have V1:=hid (fun v u w h k=>zdivN v u (10^t*10^t) E0.2 w h k lDD (by have:=zl_le10 szE.2;omega) ps2)
 have V2:=hid (fun v u w h k=>zdivN v u (10^t*10^t) E0.1 w h k lDD (by have:=zl_le10 szE.1;omega) ps1)
 have lU:(zl ((10^t*10^t/E0.1:Nat):Int)).length≤4000000000:=by
  have:=zl_le10 (Nat.le_trans (Nat.div_le_self (10^t*10^t) E0.1) (mul10 (Nat.le_refl (10^t)) (Nat.le_refl (10^t))));omega
 obtain ⟨U,hU⟩: ∃U,U=10^t*10^t/E0.1+1:=⟨_,rfl⟩
 have UP:=hid (show ∀v w,ZD 3 w ((10^t*10^t/E0.1:Nat):Int) v→Calls Tryz.prog 102 #[v] w (RetZD 3 w (U:Int)) from fun v w h=>by rw [hU];exact up1_any v _ w h lU)
 have eER:erP E0 (10^t) neg=if neg then (10^t*10^t/E0.2,U) else E0:=by unfold erP;rw [hU]
 rw [eER] at GR
 clear szP szF szE ps1 ps2 ta1 ta2 lN HRR lDD lU hU eER hE hval hw8 hY h8 lB
 generalize 10^t*10^t%E0.2=R1 at *
 generalize 10^t*10^t%E0.1=R2 at *
 generalize 10^t*10^t/E0.2=Q1 at *
 generalize 10^t*10^t/E0.1=Q2 at *
 generalize 10^t*10^t=DD at *
 generalize 10^t=D at *
 generalize N%2^n'=r at *
 generalize N/2^n'=q at *
 generalize 2^n'=B at *
 have z5:QL 49 (w2.alloc (.cells #[.bool (zneg (N:Int)),.slice a5 (zl (N:Int)).length c5,.int .i64 (n':Int)] 49)) w2.heap.size false (.slice a5 (zl (N:Int)).length c5) (n':Int):=by rw [zneg_nat];exact QL.made rfl
 refine wp_worldZ (fun WW=>Below w.heap.size w WW∧QL 49 WW w.heap.size neg (.slice a la c) (n:Int)∧BC 63 WW (w.heap.size+1) false (.slice none 0 0) false (.slice none 0 0)∧QL 49 WW w2.heap.size false (.slice a5 (zl (N:Int)).length c5) (n':Int)∧Nz 3 WW a5 c5 (zl (N:Int))) ⟨below_trans (below_trans yb1 hb2) (below_alloc _ _),(zA.below hb2).below (below_alloc _ _),(zR.below hb2).below (below_alloc _ _),z5,h5.below (below_alloc _ _)⟩ ?_
 obtain ⟨g5,hg5⟩: ∃g,g=w2.heap.size:=⟨_,rfl⟩
 rw [←hg5]
 clear zA zR yb1 z5 h5 hb2 hg5 j0 j1 j2 QA1
 intro W2 ⟨yb2,zA,zR,z5,h5⟩
 have zv5:=z5.zvN h5
 clear h5
 refine wp_region_growL 11 8 [16,17,18,19,20,21,15,22,23,6,7] [Fact.is (.pointer (some ⟨g5,0,none⟩)),Fact.z 3 ((N:Int)),Fact.is (.pointer (some ⟨g5,2,none⟩)),Fact.is (.int .i64 (n':Int)),Fact.z 3 (B:Int),Fact.z2 3 (q:Int) (r:Int),Fact.z2 3 (q:Int) (r:Int),Fact.z 3 (q:Int),Fact.z 3 (r:Int),Fact.z0 W2.heap.size 47,Fact.z0 W2.heap.size 47] [9,10] (by kernel_rfl) (by kernel_rfl) rfl ⟨?o0,?o1,?o2,?o3,?o4,?o5,?o6,?o7,?o8,?o9,?o10,trivial⟩ ?late (fun d _ _ _ _ h=>by cases d<;>exact h) ?after
 case o0=>(refine oQF rfl ?_;intro ρ w1 R hcon hfn hρ hb hp hR;have e5:ρ (.tmp 5)=.pointer (some ⟨g5,0,none⟩):=hρ.tmp 5 rfl;replace hR:=fun v w2 h1 h2=>hR v w2 h1 h2 (fun h=>absurd h (by decide));clear hρ hp;unfold OpRun;go_simp;exact hR _ _ (Below.refl _ _) rfl)
 case o1=>(refine oQF rfl ?_;intro ρ w1 R hcon hfn hρ hb hp hR;have e16:ρ (.tmp 16)=_:=hp 0 16 rfl rfl;obtain ⟨ya9,yc9,yj9,yn9⟩:=ZV.below zv5 hb;obtain ⟨j90,j91,-⟩:=yj9;replace hR:=fun v w2 h1 h2=>hR v w2 h1 h2 (fun h=>absurd h (by decide));clear hρ hp;unfold OpRun;go_simp;exact hR _ _ (Below.refl _ _) ⟨ya9,yc9,rfl,yn9⟩)
 case o2=>(refine oQF rfl ?_;intro ρ w1 R hcon hfn hρ hb hp hR;have e5:ρ (.tmp 5)=.pointer (some ⟨g5,0,none⟩):=hρ.tmp 5 rfl;replace hR:=fun v w2 h1 h2=>hR v w2 h1 h2 (fun h=>absurd h (by decide));clear hρ hp;unfold OpRun;go_simp;exact hR _ _ (Below.refl _ _) rfl)
 case o3=>(refine oQF rfl ?_;intro ρ w1 R hcon hfn hρ hb hp hR;have e18:ρ (.tmp 18)=_:=hp 2 18 rfl rfl;obtain ⟨-,j12,-⟩:=z5.below hb;replace hR:=fun v w2 h1 h2=>hR v w2 h1 h2 (fun h=>absurd h (by decide));clear hρ hp;unfold OpRun;go_simp;exact hR _ _ (Below.refl _ _) rfl)
 case o4=>(refine oQF rfl ?_;intro ρ w1 R hcon hfn hρ hb hp hR;have e19:ρ (.tmp 19)=_:=hp 3 19 rfl rfl;replace hR:=fun v w2 h1 h2=>hR v w2 h1 h2 (fun h=>absurd h (by decide));clear hρ hp;unfold OpRun;go_simp;(refine (ZP.out _).mono ?_;rintro e wn ⟨v9,rfl,hv9,hbn⟩;exact ⟨_,rfl,hR _ _ hbn hv9⟩))
 case o5=>(refine oQF rfl ?_;intro ρ w1 R hcon hfn hρ hb hp hR;have f17:=hp 1 17 rfl rfl;have f20:=hp 4 20 rfl rfl;replace hR:=fun v w2 h1 h2=>hR v w2 h1 h2 (fun h=>absurd h (by decide));clear hρ hp;unfold OpRun;go_simp;(refine (ZDv.out _ _ _ f17 f20).mono ?_;rintro e wn ⟨v9,rfl,hv9,hbn⟩;exact ⟨_,rfl,hR _ _ hbn hv9⟩))
 case o6=>(refine oQF rfl ?_;intro ρ w1 R hcon hfn hρ hb hp hR;have f21:=hp 5 21 rfl rfl;replace hR:=fun v w2 h1 h2=>hR v w2 h1 h2 (fun h=>absurd h (by decide));clear hρ hp;unfold OpRun;go_simp;exact hR _ _ (Below.refl _ _) f21)
 case o7=>(refine oQF rfl ?_;intro ρ w1 R hcon hfn hρ hb hp hR;have f15:=hp 6 15 rfl rfl;obtain ⟨a97,b97,e97,h97,k97⟩:=ZD2.parts f15;replace hR:=fun v w2 h1 h2=>hR v w2 h1 h2 (fun h=>absurd h (by decide));clear hρ hp;unfold OpRun;go_simp;exact hR _ _ (Below.refl _ _) h97)
 case o8=>(refine oQF rfl ?_;intro ρ w1 R hcon hfn hρ hb hp hR;have f15:=hp 6 15 rfl rfl;obtain ⟨a97,b97,e97,h97,k97⟩:=ZD2.parts f15;replace hR:=fun v w2 h1 h2=>hR v w2 h1 h2 (fun h=>absurd h (by decide));clear hρ hp;unfold OpRun;go_simp;exact hR _ _ (Below.refl _ _) k97)
 case o9=>(refine oQF rfl ?_;intro ρ w1 R hcon hfn hρ hb hp hR;clear hρ hp;unfold OpRun;go_simp;exact hR _ _ (below_alloc _ _) ⟨_,rfl,hb.size,ZL.made rfl⟩ (fun _=>⟨_,rfl,Nat.le_refl _,by simp⟩))
 case o10=>(refine oQF rfl ?_;intro ρ w1 R hcon hfn hρ hb hp hR;clear hρ hp;unfold OpRun;go_simp;exact hR _ _ (below_alloc _ _) ⟨_,rfl,hb.size,ZL.made rfl⟩ (fun _=>⟨_,rfl,Nat.le_refl _,by simp⟩))
 case late=>
  intro o ho
  simp only [List.getElem?_cons_succ,List.getElem?_cons_zero,Option.some.injEq] at ho
  subst ho
  refine ⟨rfl,?_⟩
  intro ρ w1 hρ hb hp
  have f15:=hp 6 15 rfl rfl
  obtain ⟨a97,b97,e97,h97,k97⟩:=ZD2.parts f15
  refine ⟨_,?_,k97⟩
  intro w2
  have hcon:=hρ.con
  go_simp
  try rfl
 case after=>
  intro u wn hb hf hd
  have f22:=hf 7 22 (by omega) rfl
  have f23:=hf 8 23 (by omega) rfl
  have f6:=hf 9 6 (by omega) rfl
  have f7:=hf 10 7 (by omega) rfl
  have d6_7:u 6≠u 7:=hd 9 10 6 7 (by omega) (by omega) (by omega) rfl rfl rfl rfl
  clear hf hd
  simp only [putAll,Act.put,List.setIfInBounds_toArray,List.set_cons_zero,List.set_cons_succ,List.drop_succ_cons,List.drop_zero,List.drop_nil]
  obtain ⟨xa1,xc1,xe1,xn1⟩:=f22
  obtain ⟨xa2,xc2,xe2,xn2⟩:=f23
  obtain ⟨gv6,eg1,hg1,zz1⟩:=f6
  obtain ⟨gv7,eg2,hg2,zz2⟩:=f7
  have gne:gv6≠gv7:=by intro h;apply d6_7;rw [eg1,eg2,h]
  rw [xe1,xe2,eg1,eg2]
  clear xe1 xe2 eg1 eg2 d6_7
  have zst:=zv_store2 (by decide) hb hg1 hg2 gne zz1 zz2 xn1 xn2
  obtain ⟨k0,k1,kf0,kf1,-⟩:=id zz1
  obtain ⟨l0,l1,lf0,lf1,-⟩:=id zz2
  go_upto_region 3 with fail
  clear k0 k1 kf0 kf1 l0 l1 lf0 lf1 zz1 zz2 xn1 xn2 hb
  refine wp_worldZ (fun WW=>Below _ _ WW∧ZV _ _ WW _ _∧ZV _ _ WW _ _) zst ?_
  clear zst
  intro W3 ⟨y3,z6,z7⟩
  replace yb2:=below_trans yb2 y3
  replace zA:=zA.below y3
  replace zR:=zR.below y3
  replace z5:=z5.below y3
  clear y3 hg1 hg2 gne ZP ZDv zv5
  refine wp_region_growF 22 [24,25,26,27,28,29,30,31,32,33,34,35,36,37,38,39,40,41,42,43,44,8] [Fact.is (.int .i64 (t:Int)),Fact.z 3 (D:Int),Fact.is (.int .i64 (t:Int)),Fact.z 3 (D:Int),Fact.pz 3 (D,D),Fact.is (.int .i64 (t:Int)),Fact.pz 3 A1,Fact.z 3 ((q:Int)),Fact.is (.int .i64 (q:Int)),Fact.is (.int .i64 (t:Int)),Fact.pz 3 Pw,Fact.z 3 ((r:Int)),Fact.is (.pointer (some ⟨g5,2,none⟩)),Fact.is (.int .i64 (n':Int)),Fact.qn 3 r n',Fact.is (.int .i64 (t:Int)),Fact.pz 3 F0,Fact.is (.int .i64 (t:Int)),Fact.pz 3 F,Fact.is (.int .i64 (t:Int)),Fact.pz 3 E0,Fact.b0 W3.heap.size 63] [21] (by kernel_rfl) (by kernel_rfl) ⟨?o0,?o1,?o2,?o3,?o4,?o5,?o6,?o7,?o8,?o9,?o10,?o11,?o12,?o13,?o14,?o15,?o16,?o17,?o18,?o19,?o20,?o21,trivial⟩ ?after
  case o0=>(refine oQF rfl ?_;intro ρ w1 R hcon hfn hρ hb hp hR;have e1:ρ (.tmp 1)=.int .i64 (t:Int):=hρ.tmp 1 rfl;replace hR:=fun v w2 h1 h2=>hR v w2 h1 h2 (fun h=>absurd h (by decide));clear hρ hp;unfold OpRun;go_simp;exact hR _ _ (Below.refl _ _) rfl)
  case o1=>(refine oQF rfl ?_;intro ρ w1 R hcon hfn hρ hb hp hR;have e24:ρ (.tmp 24)=_:=hp 0 24 rfl rfl;replace hR:=fun v w2 h1 h2=>hR v w2 h1 h2 (fun h=>absurd h (by decide));clear hρ hp;unfold OpRun;go_simp;(refine (TN.out _).mono ?_;rintro e wn ⟨v9,rfl,hv9,hbn⟩;exact ⟨_,rfl,hR _ _ hbn hv9⟩))
  case o2=>(refine oQF rfl ?_;intro ρ w1 R hcon hfn hρ hb hp hR;have e1:ρ (.tmp 1)=.int .i64 (t:Int):=hρ.tmp 1 rfl;replace hR:=fun v w2 h1 h2=>hR v w2 h1 h2 (fun h=>absurd h (by decide));clear hρ hp;unfold OpRun;go_simp;exact hR _ _ (Below.refl _ _) rfl)
  case o3=>(refine oQF rfl ?_;intro ρ w1 R hcon hfn hρ hb hp hR;have e26:ρ (.tmp 26)=_:=hp 2 26 rfl rfl;replace hR:=fun v w2 h1 h2=>hR v w2 h1 h2 (fun h=>absurd h (by decide));clear hρ hp;unfold OpRun;go_simp;(refine (TN.out _).mono ?_;rintro e wn ⟨v9,rfl,hv9,hbn⟩;exact ⟨_,rfl,hR _ _ hbn hv9⟩))
  case o4=>(refine oQF rfl ?_;intro ρ w1 R hcon hfn hρ hb hp hR;have f25:=hp 1 25 rfl rfl;have f27:=hp 3 27 rfl rfl;replace hR:=fun v w2 h1 h2=>hR v w2 h1 h2 (fun h=>absurd h (by decide));clear hρ hp;unfold OpRun;go_simp;(obtain ⟨a91,c91,e91,n91⟩:=ZD.toN f25;obtain ⟨a92,c92,e92,n92⟩:=ZD.toN f27;rw [e91,e92];exact hR _ _ (Below.refl _ _) (PZ.mk (x:=(D,D)) n91 n92)))
  case o5=>(refine oQF rfl ?_;intro ρ w1 R hcon hfn hρ hb hp hR;have e1:ρ (.tmp 1)=.int .i64 (t:Int):=hρ.tmp 1 rfl;replace hR:=fun v w2 h1 h2=>hR v w2 h1 h2 (fun h=>absurd h (by decide));clear hρ hp;unfold OpRun;go_simp;exact hR _ _ (Below.refl _ _) rfl)
  case o6=>(refine oQF rfl ?_;intro ρ w1 R hcon hfn hρ hb hp hR;have f28:=hp 4 28 rfl rfl;have e29:ρ (.tmp 29)=_:=hp 5 29 rfl rfl;replace hR:=fun v w2 h1 h2=>hR v w2 h1 h2 (fun h=>absurd h (by decide));clear hρ hp;unfold OpRun;go_simp;(refine (BE1.out _ _ f28).mono ?_;rintro e wn ⟨v9,rfl,hv9,hbn⟩;exact ⟨_,rfl,hR _ _ hbn hv9⟩))
  case o7=>(refine oQF rfl ?_;intro ρ w1 R hcon hfn hρ hb hp hR;have e6:ρ (.tmp 6)=.pointer (some ⟨gv6,0,none⟩):=hρ.tmp 6 rfl;obtain ⟨ya9,yc9,yj9,yn9⟩:=ZV.below z6 hb;obtain ⟨j90,j91,-⟩:=yj9;replace hR:=fun v w2 h1 h2=>hR v w2 h1 h2 (fun h=>absurd h (by decide));clear hρ hp;unfold OpRun;go_simp;exact hR _ _ (Below.refl _ _) ⟨ya9,yc9,rfl,yn9⟩)
  case o8=>(refine oQF rfl ?_;intro ρ w1 R hcon hfn hρ hb hp hR;have f31:=hp 7 31 rfl rfl;replace hR:=fun v w2 h1 h2=>hR v w2 h1 h2 (fun h=>absurd h (by decide));clear hρ hp;unfold OpRun;go_simp;(refine (ZI.out _ _ f31).mono ?_;rintro e wn ⟨rfl,hbn⟩;exact ⟨_,rfl,hR _ _ hbn rfl⟩))
  case o9=>(refine oQF rfl ?_;intro ρ w1 R hcon hfn hρ hb hp hR;have e1:ρ (.tmp 1)=.int .i64 (t:Int):=hρ.tmp 1 rfl;replace hR:=fun v w2 h1 h2=>hR v w2 h1 h2 (fun h=>absurd h (by decide));clear hρ hp;unfold OpRun;go_simp;exact hR _ _ (Below.refl _ _) rfl)
  case o10=>(refine oQF rfl ?_;intro ρ w1 R hcon hfn hρ hb hp hR;have f30:=hp 6 30 rfl rfl;have e32:ρ (.tmp 32)=_:=hp 8 32 rfl rfl;have e33:ρ (.tmp 33)=_:=hp 9 33 rfl rfl;replace hR:=fun v w2 h1 h2=>hR v w2 h1 h2 (fun h=>absurd h (by decide));clear hρ hp;unfold OpRun;go_simp;(refine (BP.out _ _ f30).mono ?_;rintro e wn ⟨v9,rfl,hv9,hbn⟩;exact ⟨_,rfl,hR _ _ hbn hv9⟩))
  case o11=>(refine oQF rfl ?_;intro ρ w1 R hcon hfn hρ hb hp hR;have e7:ρ (.tmp 7)=.pointer (some ⟨gv7,0,none⟩):=hρ.tmp 7 rfl;obtain ⟨ya9,yc9,yj9,yn9⟩:=ZV.below z7 hb;obtain ⟨j90,j91,-⟩:=yj9;replace hR:=fun v w2 h1 h2=>hR v w2 h1 h2 (fun h=>absurd h (by decide));clear hρ hp;unfold OpRun;go_simp;exact hR _ _ (Below.refl _ _) ⟨ya9,yc9,rfl,yn9⟩)
  case o12=>(refine oQF rfl ?_;intro ρ w1 R hcon hfn hρ hb hp hR;have e5:ρ (.tmp 5)=.pointer (some ⟨g5,0,none⟩):=hρ.tmp 5 rfl;replace hR:=fun v w2 h1 h2=>hR v w2 h1 h2 (fun h=>absurd h (by decide));clear hρ hp;unfold OpRun;go_simp;exact hR _ _ (Below.refl _ _) rfl)
  case o13=>(refine oQF rfl ?_;intro ρ w1 R hcon hfn hρ hb hp hR;have e36:ρ (.tmp 36)=_:=hp 12 36 rfl rfl;obtain ⟨-,j12,-⟩:=z5.below hb;replace hR:=fun v w2 h1 h2=>hR v w2 h1 h2 (fun h=>absurd h (by decide));clear hρ hp;unfold OpRun;go_simp;exact hR _ _ (Below.refl _ _) rfl)
  case o14=>(refine oQF rfl ?_;intro ρ w1 R hcon hfn hρ hb hp hR;have f35:=hp 11 35 rfl rfl;have e37:ρ (.tmp 37)=_:=hp 13 37 rfl rfl;obtain ⟨a91,c91,e91,n91⟩:=ZD.toN f35;replace hR:=fun v w2 h1 h2=>hR v w2 h1 h2 (fun h=>absurd h (by decide));clear hρ hp;unfold OpRun;go_simp;exact hR _ _ (Below.refl _ _) ⟨a91,c91,rfl,n91⟩)
  case o15=>(refine oQF rfl ?_;intro ρ w1 R hcon hfn hρ hb hp hR;have e1:ρ (.tmp 1)=.int .i64 (t:Int):=hρ.tmp 1 rfl;replace hR:=fun v w2 h1 h2=>hR v w2 h1 h2 (fun h=>absurd h (by decide));clear hρ hp;unfold OpRun;go_simp;exact hR _ _ (Below.refl _ _) rfl)
  case o16=>(refine oQF rfl ?_;intro ρ w1 R hcon hfn hρ hb hp hR;have f38:=hp 14 38 rfl rfl;have e39:ρ (.tmp 39)=_:=hp 15 39 rfl rfl;replace hR:=fun v w2 h1 h2=>hR v w2 h1 h2 (fun h=>absurd h (by decide));clear hρ hp;unfold OpRun;go_simp;(refine (TB.out _ _ f38).mono ?_;rintro e wn ⟨v9,rfl,hv9,hbn⟩;exact ⟨_,rfl,hR _ _ hbn hv9⟩))
  case o17=>(refine oQF rfl ?_;intro ρ w1 R hcon hfn hρ hb hp hR;have e1:ρ (.tmp 1)=.int .i64 (t:Int):=hρ.tmp 1 rfl;replace hR:=fun v w2 h1 h2=>hR v w2 h1 h2 (fun h=>absurd h (by decide));clear hρ hp;unfold OpRun;go_simp;exact hR _ _ (Below.refl _ _) rfl)
  case o18=>(refine oQF rfl ?_;intro ρ w1 R hcon hfn hρ hb hp hR;have f40:=hp 16 40 rfl rfl;have e41:ρ (.tmp 41)=_:=hp 17 41 rfl rfl;replace hR:=fun v w2 h1 h2=>hR v w2 h1 h2 (fun h=>absurd h (by decide));clear hρ hp;unfold OpRun;go_simp;(refine (BE2.out _ _ f40).mono ?_;rintro e wn ⟨v9,rfl,hv9,hbn⟩;exact ⟨_,rfl,hR _ _ hbn hv9⟩))
  case o19=>(refine oQF rfl ?_;intro ρ w1 R hcon hfn hρ hb hp hR;have e1:ρ (.tmp 1)=.int .i64 (t:Int):=hρ.tmp 1 rfl;replace hR:=fun v w2 h1 h2=>hR v w2 h1 h2 (fun h=>absurd h (by decide));clear hρ hp;unfold OpRun;go_simp;exact hR _ _ (Below.refl _ _) rfl)
  case o20=>(refine oQF rfl ?_;intro ρ w1 R hcon hfn hρ hb hp hR;have f34:=hp 10 34 rfl rfl;have f42:=hp 18 42 rfl rfl;have e43:ρ (.tmp 43)=_:=hp 19 43 rfl rfl;replace hR:=fun v w2 h1 h2=>hR v w2 h1 h2 (fun h=>absurd h (by decide));clear hρ hp;unfold OpRun;go_simp;(refine (BM.out _ _ _ f34 f42).mono ?_;rintro e wn ⟨v9,rfl,hv9,hbn⟩;exact ⟨_,rfl,hR _ _ hbn hv9⟩))
  case o21=>(refine oQF rfl ?_;intro ρ w1 R hcon hfn hρ hb hp hR;clear hρ hp;unfold OpRun;go_simp;exact hR _ _ (below_alloc _ _) ⟨_,rfl,hb.size,BC.made rfl⟩ (fun _=>⟨_,rfl,Nat.le_refl _,by simp⟩))
  case after=>
   intro u wn hb hf hd
   have f44:=hf 20 44 (by omega) rfl
   have f8:=hf 21 8 (by omega) rfl
   clear hf hd
   simp only [putAll,Act.put,List.setIfInBounds_toArray,List.set_cons_zero,List.set_cons_succ,List.drop_succ_cons,List.drop_zero,List.drop_nil]
   obtain ⟨a44,c44,b44,d44,e44,m1,m2⟩:=f44
   obtain ⟨g8,e8,hg8,z8⟩:=f8
   rw [e44,e8]
   clear e44 e8
   obtain ⟨⟨k0,k1,k2,k3⟩,f0,f1,f2,f3,s8⟩:=id z8
   replace yb2:=below_trans yb2 hb
   have hsz:=yb2.size
   have hsz3:=zR.lt
   have ltA:=zA.lt
   replace zA:=zA.below hb
   replace zR:=zR.below hb
   clear hb z6 z7 z5 TN BE1 ZI BP TB BE2 BM
   go_upto_region 4 with fail
   have n8:w.heap.size≠g8:=by omega
   have n9:w.heap.size+1≠g8:=by omega
   have n10:w.heap.size≤g8:=by omega
   refine wp_worldZ (fun WW=>Below w.heap.size w WW∧QL 49 WW w.heap.size neg (.slice a la c) (n:Int)∧BC 63 WW (w.heap.size+1) false (.slice none 0 0) false (.slice none 0 0)∧BV 63 3 WW g8 E0) ⟨below_pu4 yb2 n10 _ _ _ _,(((zA.far _ _ n8).far _ _ n8).far _ _ n8).far _ _ n8,zR.far n9 _ _ _ _,BC.put_bv ⟨⟨k0,k1,k2,k3⟩,f0,f1,f2,f3,s8⟩ (by decide) m1 m2⟩ ?_
   clear yb2 zA zR z8 k0 k1 k2 k3 f0 f1 f2 f3 s8 m1 m2 hg8 hsz hsz3 ltA
   intro W4 ⟨yb4,zA,zR,z8⟩
   obtain ⟨⟨j0,j1,-⟩,j2,-⟩:=id zA
   cases neg
   ·have GR1:=hid (GR.out E0 rfl)
    obtain ⟨a8,c8,b8,d8,⟨⟨i0,i1,i2,i3⟩,-⟩,m1,m2⟩:=id z8
    obtain ⟨⟨k0,k1,k2,k3⟩,f0,f1,f2,f3,hs2⟩:=id zR
    clear GR V1 V2 UP TN2
    go_wp2_with fail
    refine bodyPost_ret (by simp [results,Tryz.results57,go_sem,k0,k1,k2,k3];try rfl) rfl ?_
    exact ⟨E0,GR1.out,_,rfl,PZ.mk (m1.pu4 hs2 (by decide) _ _ _ _) (m2.pu4 hs2 (by decide) _ _ _ _),below_pu4 yb4 (by omega) _ _ _ _⟩
   ·have GR1:=hid (GR.out (Q1,U) rfl)
    clear GR
    have w2t:IntKind.i64.wrap (2*(t:Int))=2*(t:Int):=IntWalk.i64_in _ (by omega)
    go_upto_region 5 with fail
    clear j0 j1 j2
    have hE2:E0.2=E0.2:=rfl
    obtain ⟨E1,E2⟩:=E0
    simp only at V1 V2
    refine wp_region_growL 11 8 [49,50,51,52,53,54,48,55,56,9,10] [Fact.is (.int .i64 (t:Int)),Fact.is (.int .i64 (2*(t:Int))),Fact.z 3 (DD:Int),Fact.is (.pointer (some ⟨g8,2,none⟩)),Fact.z 3 (E2:Int),Fact.z2 3 (Q1:Int) (R1:Int),Fact.z2 3 (Q1:Int) (R1:Int),Fact.z 3 (Q1:Int),Fact.z 3 (R1:Int),Fact.z0 W4.heap.size 47,Fact.z0 W4.heap.size 47] [9,10] (by kernel_rfl) (by kernel_rfl) rfl ⟨?o0,?o1,?o2,?o3,?o4,?o5,?o6,?o7,?o8,?o9,?o10,trivial⟩ ?late (fun d _ _ _ _ h=>by cases d<;>exact h) ?after
    case o0=>(refine oQF rfl ?_;intro ρ w1 R hcon hfn hρ hb hp hR;have e1:ρ (.tmp 1)=.int .i64 (t:Int):=hρ.tmp 1 rfl;replace hR:=fun v w2 h1 h2=>hR v w2 h1 h2 (fun h=>absurd h (by decide));clear hρ hp;unfold OpRun;go_simp;exact hR _ _ (Below.refl _ _) rfl)
    case o1=>(refine oQF rfl ?_;intro ρ w1 R hcon hfn hρ hb hp hR;have e49:ρ (.tmp 49)=_:=hp 0 49 rfl rfl;replace hR:=fun v w2 h1 h2=>hR v w2 h1 h2 (fun h=>absurd h (by decide));clear hρ hp;unfold OpRun;go_simp;exact hR _ _ (Below.refl _ _) rfl)
    case o2=>(refine oQF rfl ?_;intro ρ w1 R hcon hfn hρ hb hp hR;have e50:ρ (.tmp 50)=_:=hp 1 50 rfl rfl;replace hR:=fun v w2 h1 h2=>hR v w2 h1 h2 (fun h=>absurd h (by decide));clear hρ hp;unfold OpRun;go_simp;(refine (TN2.out _).mono ?_;rintro e wn ⟨v9,rfl,hv9,hbn⟩;exact ⟨_,rfl,hR _ _ hbn hv9⟩))
    case o3=>(refine oQF rfl ?_;intro ρ w1 R hcon hfn hρ hb hp hR;have e8:ρ (.tmp 8)=.pointer (some ⟨g8,0,none⟩):=hρ.tmp 8 rfl;replace hR:=fun v w2 h1 h2=>hR v w2 h1 h2 (fun h=>absurd h (by decide));clear hρ hp;unfold OpRun;go_simp;exact hR _ _ (Below.refl _ _) rfl)
    case o4=>(refine oQF rfl ?_;intro ρ w1 R hcon hfn hρ hb hp hR;have e52:ρ (.tmp 52)=_:=hp 3 52 rfl rfl;obtain ⟨qa,qc,q0,q1,qz⟩:=(z8.below hb).hi;replace hR:=fun v w2 h1 h2=>hR v w2 h1 h2 (fun h=>absurd h (by decide));clear hρ hp;unfold OpRun;go_simp;exact hR _ _ (Below.refl _ _) qz)
    case o5=>(refine oQF rfl ?_;intro ρ w1 R hcon hfn hρ hb hp hR;have f51:=hp 2 51 rfl rfl;have f53:=hp 4 53 rfl rfl;replace hR:=fun v w2 h1 h2=>hR v w2 h1 h2 (fun h=>absurd h (by decide));clear hρ hp;unfold OpRun;go_simp;(refine (V1.out _ _ _ f51 f53).mono ?_;rintro e wn ⟨v9,rfl,hv9,hbn⟩;exact ⟨_,rfl,hR _ _ hbn hv9⟩))
    case o6=>(refine oQF rfl ?_;intro ρ w1 R hcon hfn hρ hb hp hR;have f54:=hp 5 54 rfl rfl;replace hR:=fun v w2 h1 h2=>hR v w2 h1 h2 (fun h=>absurd h (by decide));clear hρ hp;unfold OpRun;go_simp;exact hR _ _ (Below.refl _ _) f54)
    case o7=>(refine oQF rfl ?_;intro ρ w1 R hcon hfn hρ hb hp hR;have f48:=hp 6 48 rfl rfl;obtain ⟨a97,b97,e97,h97,k97⟩:=ZD2.parts f48;replace hR:=fun v w2 h1 h2=>hR v w2 h1 h2 (fun h=>absurd h (by decide));clear hρ hp;unfold OpRun;go_simp;exact hR _ _ (Below.refl _ _) h97)
    case o8=>(refine oQF rfl ?_;intro ρ w1 R hcon hfn hρ hb hp hR;have f48:=hp 6 48 rfl rfl;obtain ⟨a97,b97,e97,h97,k97⟩:=ZD2.parts f48;replace hR:=fun v w2 h1 h2=>hR v w2 h1 h2 (fun h=>absurd h (by decide));clear hρ hp;unfold OpRun;go_simp;exact hR _ _ (Below.refl _ _) k97)
    case o9=>(refine oQF rfl ?_;intro ρ w1 R hcon hfn hρ hb hp hR;clear hρ hp;unfold OpRun;go_simp;exact hR _ _ (below_alloc _ _) ⟨_,rfl,hb.size,ZL.made rfl⟩ (fun _=>⟨_,rfl,Nat.le_refl _,by simp⟩))
    case o10=>(refine oQF rfl ?_;intro ρ w1 R hcon hfn hρ hb hp hR;clear hρ hp;unfold OpRun;go_simp;exact hR _ _ (below_alloc _ _) ⟨_,rfl,hb.size,ZL.made rfl⟩ (fun _=>⟨_,rfl,Nat.le_refl _,by simp⟩))
    case late=>
     intro o ho
     simp only [List.getElem?_cons_succ,List.getElem?_cons_zero,Option.some.injEq] at ho
     subst ho
     refine ⟨rfl,?_⟩
     intro ρ w1 hρ hb hp
     have f48:=hp 6 48 rfl rfl
     obtain ⟨a97,b97,e97,h97,k97⟩:=ZD2.parts f48
     refine ⟨_,?_,k97⟩
     intro w2
     have hcon:=hρ.con
     go_simp
     try rfl
    case after=>
     intro u wn hb hf hd
     have f55:=hf 7 55 (by omega) rfl
     have f56:=hf 8 56 (by omega) rfl
     have f9:=hf 9 9 (by omega) rfl
     have f10:=hf 10 10 (by omega) rfl
     have d9_10:u 9≠u 10:=hd 9 10 9 10 (by omega) (by omega) (by omega) rfl rfl rfl rfl
     clear hf hd
     simp only [putAll,Act.put,List.setIfInBounds_toArray,List.set_cons_zero,List.set_cons_succ,List.drop_succ_cons,List.drop_zero,List.drop_nil]
     obtain ⟨xa1,xc1,xe1,xn1⟩:=f55
     obtain ⟨xa2,xc2,xe2,xn2⟩:=f56
     obtain ⟨gv9,eg1,hg1,zz1⟩:=f9
     obtain ⟨gv10,eg2,hg2,zz2⟩:=f10
     have gne:gv9≠gv10:=by intro h;apply d9_10;rw [eg1,eg2,h]
     rw [xe1,xe2,eg1,eg2]
     clear xe1 xe2 eg1 eg2 d9_10
     have zst:=zv_store2 (by decide) hb hg1 hg2 gne zz1 zz2 xn1 xn2
     obtain ⟨k0,k1,kf0,kf1,-⟩:=id zz1
     obtain ⟨l0,l1,lf0,lf1,-⟩:=id zz2
     go_upto_region 6 with fail
     clear k0 k1 kf0 kf1 l0 l1 lf0 lf1 zz1 zz2 xn1 xn2 hb
     refine wp_worldZ (fun WW=>Below _ _ WW∧ZV _ _ WW _ _∧ZV _ _ WW _ _) zst ?_
     clear zst
     intro W5 ⟨y5,z9,z10⟩
     replace yb4:=below_trans yb4 y5
     replace zR:=zR.below y5
     replace z8:=z8.below y5
     clear y5 hg1 hg2 gne z10 V1 zA
     refine wp_region_growL 11 8 [58,59,60,61,62,63,57,64,65,11,12] [Fact.is (.int .i64 (t:Int)),Fact.is (.int .i64 (2*(t:Int))),Fact.z 3 (DD:Int),Fact.is (.pointer (some ⟨g8,0,none⟩)),Fact.z 3 (E1:Int),Fact.z2 3 (Q2:Int) (R2:Int),Fact.z2 3 (Q2:Int) (R2:Int),Fact.z 3 (Q2:Int),Fact.z 3 (R2:Int),Fact.z0 W5.heap.size 47,Fact.z0 W5.heap.size 47] [9,10] (by kernel_rfl) (by kernel_rfl) rfl ⟨?o0,?o1,?o2,?o3,?o4,?o5,?o6,?o7,?o8,?o9,?o10,trivial⟩ ?late (fun d _ _ _ _ h=>by cases d<;>exact h) ?after
     case o0=>(refine oQF rfl ?_;intro ρ w1 R hcon hfn hρ hb hp hR;have e1:ρ (.tmp 1)=.int .i64 (t:Int):=hρ.tmp 1 rfl;replace hR:=fun v w2 h1 h2=>hR v w2 h1 h2 (fun h=>absurd h (by decide));clear hρ hp;unfold OpRun;go_simp;exact hR _ _ (Below.refl _ _) rfl)
     case o1=>(refine oQF rfl ?_;intro ρ w1 R hcon hfn hρ hb hp hR;have e58:ρ (.tmp 58)=_:=hp 0 58 rfl rfl;replace hR:=fun v w2 h1 h2=>hR v w2 h1 h2 (fun h=>absurd h (by decide));clear hρ hp;unfold OpRun;go_simp;exact hR _ _ (Below.refl _ _) rfl)
     case o2=>(refine oQF rfl ?_;intro ρ w1 R hcon hfn hρ hb hp hR;have e59:ρ (.tmp 59)=_:=hp 1 59 rfl rfl;replace hR:=fun v w2 h1 h2=>hR v w2 h1 h2 (fun h=>absurd h (by decide));clear hρ hp;unfold OpRun;go_simp;(refine (TN2.out _).mono ?_;rintro e wn ⟨v9,rfl,hv9,hbn⟩;exact ⟨_,rfl,hR _ _ hbn hv9⟩))
     case o3=>(refine oQF rfl ?_;intro ρ w1 R hcon hfn hρ hb hp hR;have e8:ρ (.tmp 8)=.pointer (some ⟨g8,0,none⟩):=hρ.tmp 8 rfl;replace hR:=fun v w2 h1 h2=>hR v w2 h1 h2 (fun h=>absurd h (by decide));clear hρ hp;unfold OpRun;go_simp;exact hR _ _ (Below.refl _ _) rfl)
     case o4=>(refine oQF rfl ?_;intro ρ w1 R hcon hfn hρ hb hp hR;have e61:ρ (.tmp 61)=_:=hp 3 61 rfl rfl;obtain ⟨qa,qc,q0,q1,qz⟩:=(z8.below hb).lo;replace hR:=fun v w2 h1 h2=>hR v w2 h1 h2 (fun h=>absurd h (by decide));clear hρ hp;unfold OpRun;go_simp;exact hR _ _ (Below.refl _ _) qz)
     case o5=>(refine oQF rfl ?_;intro ρ w1 R hcon hfn hρ hb hp hR;have f60:=hp 2 60 rfl rfl;have f62:=hp 4 62 rfl rfl;replace hR:=fun v w2 h1 h2=>hR v w2 h1 h2 (fun h=>absurd h (by decide));clear hρ hp;unfold OpRun;go_simp;(refine (V2.out _ _ _ f60 f62).mono ?_;rintro e wn ⟨v9,rfl,hv9,hbn⟩;exact ⟨_,rfl,hR _ _ hbn hv9⟩))
     case o6=>(refine oQF rfl ?_;intro ρ w1 R hcon hfn hρ hb hp hR;have f63:=hp 5 63 rfl rfl;replace hR:=fun v w2 h1 h2=>hR v w2 h1 h2 (fun h=>absurd h (by decide));clear hρ hp;unfold OpRun;go_simp;exact hR _ _ (Below.refl _ _) f63)
     case o7=>(refine oQF rfl ?_;intro ρ w1 R hcon hfn hρ hb hp hR;have f57:=hp 6 57 rfl rfl;obtain ⟨a97,b97,e97,h97,k97⟩:=ZD2.parts f57;replace hR:=fun v w2 h1 h2=>hR v w2 h1 h2 (fun h=>absurd h (by decide));clear hρ hp;unfold OpRun;go_simp;exact hR _ _ (Below.refl _ _) h97)
     case o8=>(refine oQF rfl ?_;intro ρ w1 R hcon hfn hρ hb hp hR;have f57:=hp 6 57 rfl rfl;obtain ⟨a97,b97,e97,h97,k97⟩:=ZD2.parts f57;replace hR:=fun v w2 h1 h2=>hR v w2 h1 h2 (fun h=>absurd h (by decide));clear hρ hp;unfold OpRun;go_simp;exact hR _ _ (Below.refl _ _) k97)
     case o9=>(refine oQF rfl ?_;intro ρ w1 R hcon hfn hρ hb hp hR;clear hρ hp;unfold OpRun;go_simp;exact hR _ _ (below_alloc _ _) ⟨_,rfl,hb.size,ZL.made rfl⟩ (fun _=>⟨_,rfl,Nat.le_refl _,by simp⟩))
     case o10=>(refine oQF rfl ?_;intro ρ w1 R hcon hfn hρ hb hp hR;clear hρ hp;unfold OpRun;go_simp;exact hR _ _ (below_alloc _ _) ⟨_,rfl,hb.size,ZL.made rfl⟩ (fun _=>⟨_,rfl,Nat.le_refl _,by simp⟩))
     case late=>
      intro o ho
      simp only [List.getElem?_cons_succ,List.getElem?_cons_zero,Option.some.injEq] at ho
      subst ho
      refine ⟨rfl,?_⟩
      intro ρ w1 hρ hb hp
      have f57:=hp 6 57 rfl rfl
      obtain ⟨a97,b97,e97,h97,k97⟩:=ZD2.parts f57
      refine ⟨_,?_,k97⟩
      intro w2
      have hcon:=hρ.con
      go_simp
      try rfl
     case after=>
      intro u wn hb hf hd
      have f64:=hf 7 64 (by omega) rfl
      have f65:=hf 8 65 (by omega) rfl
      have f11:=hf 9 11 (by omega) rfl
      have f12:=hf 10 12 (by omega) rfl
      have d11_12:u 11≠u 12:=hd 9 10 11 12 (by omega) (by omega) (by omega) rfl rfl rfl rfl
      clear hf hd
      simp only [putAll,Act.put,List.setIfInBounds_toArray,List.set_cons_zero,List.set_cons_succ,List.drop_succ_cons,List.drop_zero,List.drop_nil]
      obtain ⟨xa1,xc1,xe1,xn1⟩:=f64
      obtain ⟨xa2,xc2,xe2,xn2⟩:=f65
      obtain ⟨gv11,eg1,hg1,zz1⟩:=f11
      obtain ⟨gv12,eg2,hg2,zz2⟩:=f12
      have gne:gv11≠gv12:=by intro h;apply d11_12;rw [eg1,eg2,h]
      rw [xe1,xe2,eg1,eg2]
      clear xe1 xe2 eg1 eg2 d11_12
      have zst:=zv_store2 (by decide) hb hg1 hg2 gne zz1 zz2 xn1 xn2
      obtain ⟨k0,k1,kf0,kf1,-⟩:=id zz1
      obtain ⟨l0,l1,lf0,lf1,-⟩:=id zz2
      go_upto_region 7 with fail
      clear k0 k1 kf0 kf1 l0 l1 lf0 lf1 zz1 zz2 xn1 xn2 hb
      refine wp_worldZ (fun WW=>Below _ _ WW∧ZV _ _ WW _ _∧ZV _ _ WW _ _) zst ?_
      clear zst
      intro W6 ⟨y6,z11,z12⟩
      replace yb4:=below_trans yb4 y6
      replace zR:=zR.below y6
      replace z8:=z8.below y6
      replace z9:=z9.below y6
      clear y6 hg1 hg2 gne z12 V2 TN2
      refine wp_region_grow 4 [66,67,68,69] [Fact.z 3 ((Q1:Int)),Fact.z 3 ((Q2:Int)),Fact.z 3 (U:Int),Fact.pz 3 (Q1,U)] (by kernel_rfl) (by kernel_rfl) ⟨?o0,?o1,?o2,?o3,trivial⟩ ?after
      case o0=>(refine oQ rfl ?_;intro ρ w1 R hcon hfn hρ hb hp hR;have e9:ρ (.tmp 9)=.pointer (some ⟨gv9,0,none⟩):=hρ.tmp 9 rfl;obtain ⟨ya9,yc9,yj9,yn9⟩:=ZV.below z9 hb;obtain ⟨j90,j91,-⟩:=yj9;clear hρ hp;unfold OpRun;go_simp;exact hR _ _ (Below.refl _ _) ⟨ya9,yc9,rfl,yn9⟩)
      case o1=>(refine oQ rfl ?_;intro ρ w1 R hcon hfn hρ hb hp hR;have e11:ρ (.tmp 11)=.pointer (some ⟨gv11,0,none⟩):=hρ.tmp 11 rfl;obtain ⟨ya9,yc9,yj9,yn9⟩:=ZV.below z11 hb;obtain ⟨j90,j91,-⟩:=yj9;clear hρ hp;unfold OpRun;go_simp;exact hR _ _ (Below.refl _ _) ⟨ya9,yc9,rfl,yn9⟩)
      case o2=>(refine oQ rfl ?_;intro ρ w1 R hcon hfn hρ hb hp hR;have f67:=hp 1 67 rfl rfl;clear hρ hp;unfold OpRun;go_simp;(refine (UP.out _ _ f67).mono ?_;rintro e wn ⟨v9,rfl,hv9,hbn⟩;exact ⟨_,rfl,hR _ _ hbn hv9⟩))
      case o3=>(refine oQ rfl ?_;intro ρ w1 R hcon hfn hρ hb hp hR;have f66:=hp 0 66 rfl rfl;have f68:=hp 2 68 rfl rfl;clear hρ hp;unfold OpRun;go_simp;(obtain ⟨a91,c91,e91,n91⟩:=ZD.toN f66;obtain ⟨a92,c92,e92,n92⟩:=ZD.toN f68;rw [e91,e92];exact hR _ _ (Below.refl _ _) (PZ.mk (x:=(Q1,U)) n91 n92)))
      case after=>
       intro u wn hb hf
       have f69:=hf 3 69 (by omega) rfl
       clear hf
       simp only [putAll,Act.put,List.setIfInBounds_toArray,List.set_cons_zero,List.set_cons_succ,List.drop_succ_cons,List.drop_zero,List.drop_nil]
       obtain ⟨a69,c69,b69,d69,e69,m1,m2⟩:=f69
       rw [e69]
       clear e69
       replace yb4:=below_trans yb4 hb
       replace zR:=zR.below hb
       obtain ⟨x0',x1,x2,x3,⟨⟨k0,k1,k2,k3⟩,f0,f1,f2,f3,s8⟩⟩:=(z8.below hb).bc
       clear hb z8 z9 z11 UP
       go_upto_region 8 with fail
       refine wp_worldZ (fun WW=>Below w.heap.size w WW∧BC 63 WW (w.heap.size+1) false (.slice none 0 0) false (.slice none 0 0)∧BV 63 3 WW g8 (Q1,U)) ⟨below_pu4 yb4 n10 _ _ _ _,zR.far n9 _ _ _ _,BC.put_bv (x:=(Q1,U)) ⟨⟨k0,k1,k2,k3⟩,f0,f1,f2,f3,s8⟩ (by decide) m1 m2⟩ ?_
       clear yb4 zR k0 k1 k2 k3 f0 f1 f2 f3 s8 m1 m2
       intro W7 ⟨yb4,zR,z8⟩
       obtain ⟨a8,c8,b8,d8,⟨⟨i0,i1,i2,i3⟩,-⟩,m1,m2⟩:=id z8
       obtain ⟨⟨k0,k1,k2,k3⟩,f0,f1,f2,f3,hs2⟩:=id zR
       go_wp2_with fail
       refine bodyPost_ret (by simp [results,Tryz.results57,go_sem,k0,k1,k2,k3];try rfl) rfl ?_
       exact ⟨(Q1,U),GR1.out,_,rfl,PZ.mk (x:=(Q1,U)) (m1.pu4 hs2 (by decide) _ _ _ _) (m2.pu4 hs2 (by decide) _ _ _ _),below_pu4 yb4 (by omega) _ _ _ _⟩
end Go.Proofs.YtehhegbkahnhgaaGreatDoor
