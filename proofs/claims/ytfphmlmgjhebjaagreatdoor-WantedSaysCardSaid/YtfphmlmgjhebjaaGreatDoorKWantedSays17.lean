/- WantedSays: what the proof leans on, part 17 (Tx5 Tx8 ShelfT). -/
import Derived.Shelf.Strings.Builder1
import Derived.Shelf.Strings.Builder2
import Derived.Shelf.Strings.OnBuilder
import Derived.Shelf.Strings.Trim
import Derived.Shelf.Small.Utf8
import Derived.Shelf.Small.Bits
import Derived.Shelf.Small.Strs
import Derived.Shelf.Small.Wraps
import Derived.Shelf.Strings.BuilderF
import Derived.Shelf.Strconv.Atoi
import Derived.Shelf.Strconv.Itoa0
import Derived.Shelf.Strconv.Itoa1
import Derived.Shelf.LaysM
import Derived.Shelf.Strconv.Itoa2
import Derived.Shelf.Strconv.Itoa3
import Derived.Ground.MpProg
import Derived.Shelf.Pu.ParseUintPublic10
import Derived.Shelf.Strings.Search1
import Derived.Shelf.Strings.Search2
import Derived.Shelf.Strings.Search3
import Derived.Shelf.Strings.Shaped
import Derived.Shelf.Strings.Prefix
import Derived.Shelf.Strings.Runes
import Derived.Shelf.Strings.AsciiSet
import Derived.Shelf.Bits.Mul64
import Derived.Shelf.Strings.Repeat
import Derived.Shelf.Unicode.DecodeSlow
import Derived.Ground.Names2Prog
import Derived.Shelf.Slices.ReverseS
import Derived.Shelf.Slices.SearchI
import Derived.Test.YtfphmlmgjhebjaaGreatDoorKWantedSays8
import Derived.Test.YtfphmlmgjhebjaaGreatDoorKWantedSays10
import Derived.Test.YtfphmlmgjhebjaaGreatDoorKWantedSays14
import Derived.Test.YtfphmlmgjhebjaaGreatDoorKWantedSays16
set_option linter.unusedVariables false
set_option linter.unusedSimpArgs false
namespace Go.Ulp
open Go.RowKit
def tenZ (n:Nat):Int:=((10^n:Nat):Int)
theorem zl_len_ten (n:Nat):(zl (tenZ n)).length≤n+1:=by
 unfold zl
 refine (digs_len_le 10000 (by omega) _ _).2 ?_
 unfold tenZ
 rw [Int.natAbs_natCast]
 exact Nat.lt_of_lt_of_le (Nat.pow_lt_pow_right (by omega) (Nat.lt_succ_self n)) (Nat.pow_le_pow_left (by omega) _)
theorem tenZ_add (a b:Nat):tenZ a*tenZ b=tenZ (a+b):=by unfold tenZ;rw [←Int.natCast_mul,Nat.pow_add]
def dA (D:Dy):Nat:=D.1.natAbs*2^D.2.toNat
def dB (D:Dy):Nat:=2^(-D.2).toNat
theorem dB_pos (D:Dy):0<dB D:=Nat.two_pow_pos _
theorem dA_pos (D:Dy) (h:D.1≠0):0<dA D:=Nat.mul_pos (by omega) (Nat.two_pow_pos _)
theorem nrm_ratio {X:Int} {n:Nat} {D:Dy} (h:nrm X (-(n:Int))=D):X.natAbs*dB D=dA D*2^n:=by
 obtain ⟨k,h1,h2⟩:=nrm_rep X (-(n:Int))
 rw [h] at h1 h2
 by_cases hX:X=0
 ·have:D=(0,0):=by rw [←h,hX];rfl
  subst this
  rw [hX];simp [dA]
 ·have h2:=h2 hX
  have h3:X.natAbs=D.1.natAbs*2^k:=by rw [h1];exact natAbs_mul_pw _ _
  unfold dA dB
  rw [h3,Nat.mul_assoc,Nat.mul_assoc,←Nat.pow_add,←Nat.pow_add]
  congr 2
  omega
def RetTT (t:TypeId) (w:World) (D:Dy) (p:Int) (e:Ending) (w':World):Prop:=
 ∃(a b:Nat) (v:Value),e=.returned v∧ZD2 t w' (a:Int) (b:Int) v∧0<b∧a*(dB D*tnN (-p))=dA D*tnN p*b∧(zl (a:Int)).length≤300000∧(zl (b:Int)).length≤300000∧Below w.heap.size w w'
end Go.Ulp
namespace Go.Proofs.YtfphmlmgjhebjaaGreatDoor
open Go.RowKit Go.Ulp
set_option maxHeartbeats 1000000
set_option maxRecDepth 100000
theorem zten_aux (f:Nat): ∀(n:Nat) (w:World),n≤f→n≤10000000→Calls Tryz.prog 201 #[.int .i64 (n:Int)] w fun e w'=>RetZ 3 w (tenZ n) e w':=by
 induction f with
 |zero=>
  intro n w hn _
  obtain rfl:n=0:=by omega
  have O1:=hid (show ∀w,Calls Tryz.prog 108 #[.int .i64 1] w fun e w'=>RetZ 3 w (tenZ 0) e w' from fun w=>zN_any 1 (by omega) w)
  have zR0:ZL 31 (w.alloc (.cells #[.bool false,.slice none 0 0] 31)) w.heap.size false (.slice none 0 0):=ZL.made rfl
  have yb:Below w.heap.size w (w.alloc (.cells #[.bool false,.slice none 0 0] 31)):=below_alloc _ _
  go_enter Tryz.func201,Tryz.ntmps201
  go_wp2_with fail
  go_loopw [3,7] (fun s3 s7 wr=>s3=.int .i64 1∧s7=.int .i64 0∧wr=w.alloc (.cells #[.bool false,.slice none 0 0] 31)) (fun _ _ _=>0)
  case atStart=>exact ⟨rfl,rfl,rfl⟩
  case round=>
   obtain ⟨rfl,rfl,rfl⟩:=hrel
   go_wp2_with fail
   refine (O1.out _).mono ?_
   rintro e w1 ⟨ao,cap,rfl,hN,hb⟩
   have zR:=zR0.below hb
   have k0:=zR.1
   have k1:=zR.2.1
   have f0:=zR.2.2.1
   have f1:=zR.2.2.2.1
   have hs2:=zR.2.2.2.2
   go_wp2_with fail
   refine bodyPost_ret (by simp [results,Tryz.results201,go_sem,k0,k1];try rfl) rfl ?_
   exact ⟨_,_,rfl,(hN.setCell hs2 (by decide) _ _).setCell (hs2.setCell _ _) (by decide) _ _,((below_trans yb hb).setCell (by first|omega|(simp;done)|(simp;omega)) _).setCell (by first|omega|(simp;done)|(simp;omega)) _⟩
 |succ f ih=>
  intro n w hn hs
  by_cases h0:n=0
  ·subst h0;exact ih 0 w (by omega) (by omega)
  have IH:=hid ih
  clear ih
  have zR0:ZL 31 (w.alloc (.cells #[.bool false,.slice none 0 0] 31)) w.heap.size false (.slice none 0 0):=ZL.made rfl
  have yb:Below w.heap.size w (w.alloc (.cells #[.bool false,.slice none 0 0] 31)):=below_alloc _ _
  by_cases h8:n<8
  ·have ON:=hid (show ∀(P:Nat) w,P=10^n→Calls Tryz.prog 108 #[.int .i64 (P:Int)] w fun e w'=>RetZ 3 w (tenZ n) e w' from fun P w h=>by
    have h9:(10:Nat)^n≤10^8:=Nat.pow_le_pow_right (by omega) (by omega)
    have h7:(10:Nat)^8=100000000:=by decide
    subst h
    exact zN_any (10^n) (by omega) w)
   go_enter Tryz.func201,Tryz.ntmps201
   go_wp2_with fail
   go_loopw [3,7] (fun s3 s7 wr=> ∃i P:Nat,s3=.int .i64 (P:Int)∧s7=.int .i64 (i:Int)∧i≤n∧P=10^i∧wr=w.alloc (.cells #[.bool false,.slice none 0 0] 31)) (fun _ s7 _=>n-(intOf s7).toNat)
   case atStart=>exact ⟨0,1,rfl,rfl,by omega,rfl,rfl⟩
   case round=>
    obtain ⟨i,P,rfl,rfl,hi,hP,rfl⟩:=hrel
    by_cases hin:i<n
    ·have hPb:P≤100000000:=by
      have h9:(10:Nat)^i≤10^8:=Nat.pow_le_pow_right (by omega) (by omega)
      have h7:(10:Nat)^8=100000000:=by decide
      omega
     have HP:=hid (show P*10=10^(i+1) by rw [Nat.pow_succ,hP])
     clear hP
     go_wp2_with fail
     go_roundw
     case rel=>exact ⟨i+1,P*10,by go_num,by go_num,by omega,HP.out,by first|rfl|trivial⟩
     case measure=>simp [intOf];omega
    ·have hi2:i=n:=by omega
     subst hi2
     have ONP:=hid (fun w=>ON.out P w hP)
     clear hP ON
     go_wp2_with fail
     refine (ONP.out _).mono ?_
     rintro e w1 ⟨ao,cap,rfl,hN,hb⟩
     have zR:=zR0.below hb
     have k0:=zR.1
     have k1:=zR.2.1
     have f0:=zR.2.2.1
     have f1:=zR.2.2.2.1
     have hs2:=zR.2.2.2.2
     go_wp2_with fail
     refine bodyPost_ret (by simp [results,Tryz.results201,go_sem,k0,k1];try rfl) rfl ?_
     exact ⟨_,_,rfl,(hN.setCell hs2 (by decide) _ _).setCell (hs2.setCell _ _) (by decide) _ _,((below_trans yb hb).setCell (by first|omega|(simp;done)|(simp;omega)) _).setCell (by first|omega|(simp;done)|(simp;omega)) _⟩
  ·have h1: ¬(n:Int)<8:=by omega
   obtain ⟨q,hq⟩: ∃q,q=n/2:=⟨_,rfl⟩
   obtain ⟨r,hr⟩: ∃r,r=n-q:=⟨_,rfl⟩
   have e1:(n:Int)/2=(q:Int):=by omega
   have e2:(n:Int)-(q:Int)=(r:Int):=by omega
   have hq1:q≤f:=by omega
   have hr1:r≤f:=by omega
   have hq2:q≤10000000:=by omega
   have hr2:r≤10000000:=by omega
   have HS:=hid (show tenZ q*tenZ r=tenZ n by rw [tenZ_add];congr 1;omega)
   clear hq hr
   go_enter Tryz.func201,Tryz.ntmps201
   go_wp2_with fail
   refine (IH.out q _ hq1 hq2).mono ?_
   rintro e w1 ⟨ao,cap,rfl,hN,hb⟩
   go_wp2_with fail
   refine (IH.out r _ hr1 hr2).mono ?_
   rintro e w2 ⟨ao2,cap2,rfl,hN2,hb2⟩
   go_wp2_with fail
   refine (zmul_any _ _ _ _ _ _ _ (hN.below hb2) hN2 (Nat.le_trans (zl_len_ten q) (by omega)) (Nat.le_trans (zl_len_ten r) (by omega))).mono ?_
   rw [HS.out]
   rintro e w3 ⟨ao3,cap3,rfl,hN3,hb3⟩
   have zR:=((zR0.below hb).below hb2).below hb3
   have yb:=below_trans (below_trans yb hb) hb2
   have k0:=zR.1
   have k1:=zR.2.1
   have f0:=zR.2.2.1
   have f1:=zR.2.2.2.1
   have hs2:=zR.2.2.2.2
   go_wp2_with fail
   refine bodyPost_ret (by simp [results,Tryz.results201,go_sem,k0,k1];try rfl) rfl ?_
   exact ⟨_,_,rfl,(hN3.setCell hs2 (by decide) _ _).setCell (hs2.setCell _ _) (by decide) _ _,((below_trans yb hb3).setCell (by first|omega|(simp;done)|(simp;omega)) _).setCell (by first|omega|(simp;done)|(simp;omega)) _⟩
theorem zTenD (n:Nat) (w:World) (hn:n≤10000000):Calls Tryz.prog 201 #[.int .i64 (n:Int)] w (RetZD 3 w (tenZ n)):=(zten_aux n n w (Nat.le_refl _) hn).mono fun _ _ h=>h.zd
theorem tt_start (tq tz ti:TypeId) (X:Int) (n:Nat) (ao:Option Addr) (cap:Nat) (w:World) (h0:Nz ti w ao cap (zl X)):
 Below w.heap.size w (((w.alloc (.cells #[.bool (zneg X),.slice ao (zl X).length cap,.int .i64 (n:Int)] tq)).alloc (.cells #[.bool false,.slice none 0 0] tz)).alloc (.cells #[.bool false,.slice none 0 0] tz))∧ZV tq ti (((w.alloc (.cells #[.bool (zneg X),.slice ao (zl X).length cap,.int .i64 (n:Int)] tq)).alloc (.cells #[.bool false,.slice none 0 0] tz)).alloc (.cells #[.bool false,.slice none 0 0] tz)) w.heap.size X∧(((w.alloc (.cells #[.bool (zneg X),.slice ao (zl X).length cap,.int .i64 (n:Int)] tq)).alloc (.cells #[.bool false,.slice none 0 0] tz)).alloc (.cells #[.bool false,.slice none 0 0] tz)).cell? ⟨w.heap.size,2,none⟩=some (.int .i64 (n:Int))∧ZL tz (((w.alloc (.cells #[.bool (zneg X),.slice ao (zl X).length cap,.int .i64 (n:Int)] tq)).alloc (.cells #[.bool false,.slice none 0 0] tz)).alloc (.cells #[.bool false,.slice none 0 0] tz)) (w.heap.size+1) false (.slice none 0 0)∧ZL tz (((w.alloc (.cells #[.bool (zneg X),.slice ao (zl X).length cap,.int .i64 (n:Int)] tq)).alloc (.cells #[.bool false,.slice none 0 0] tz)).alloc (.cells #[.bool false,.slice none 0 0] tz)) (w.heap.size+1+1) false (.slice none 0 0):=by
 have q0:QL tq (w.alloc (.cells #[.bool (zneg X),.slice ao (zl X).length cap,.int .i64 (n:Int)] tq)) w.heap.size (zneg X) (.slice ao (zl X).length cap) (n:Int):=QL.made rfl
 have q2:=(q0.alloc (.cells #[.bool false,.slice none 0 0] tz)).alloc (.cells #[.bool false,.slice none 0 0] tz)
 exact ⟨by (repeat' first|(with_reducible first|assumption|apply bR|apply bA|apply bN|apply bD|apply bL|apply bS)|refine bT ?_ (by assumption)|go_size),⟨ao,cap,q2.1,h0.below (by (repeat' first|(with_reducible first|assumption|apply bR|apply bA|apply bN|apply bD|apply bL|apply bS)|refine bT ?_ (by assumption)|go_size))⟩,q2.2.1,(ZL.made (by simp)).alloc _,ZL.made (by simp)⟩
theorem tenTimes_pos (X:Int) (n:Nat) (ao:Option Addr) (cap p:Nat) (w:World) (h0:Nz 3 w ao cap (zl X)) (hX:(zl X).length≤100000) (hn:n≤100000) (hp:p≤10000):
 Calls Tryz.prog 196 #[.agg #[.bool (zneg X),.slice ao (zl X).length cap,.int .i64 (n:Int)],.int .i64 (p:Int)] w (RetZD2 3 w ((X.natAbs:Int)*tenZ p) (pw n)):=by
 have lt:=Nat.le_trans (zl_len_ten p) (show p+1≤100000000 by omega)
 have lX:(zl (X.natAbs:Int)).length≤100000000:=by rw [zl_nat];exact Nat.le_trans hX (by omega)
 have H0:=hid h0
 clear h0
 go_enter Tryz.func196,Tryz.ntmps196
 go_upto_region 1 with fail
 refine wp_worldZ (fun WW=>Below w.heap.size w WW∧ZV 33 3 WW w.heap.size X∧WW.cell? ⟨w.heap.size,2,none⟩=some (.int .i64 (n:Int))∧ZL 31 WW (w.heap.size+1) false (.slice none 0 0)∧ZL 31 WW (w.heap.size+1+1) false (.slice none 0 0)) (tt_start 33 31 3 X n ao cap w H0.out) ?_
 intro W1 ⟨yb1,zQ,c2,z4,z5⟩
 obtain ⟨g5,hg5⟩: ∃g,g=w.heap.size+1+1:=⟨_,rfl⟩
 obtain ⟨g4,hg4⟩: ∃g,g=w.heap.size+1:=⟨_,rfl⟩
 obtain ⟨g2,hg2⟩: ∃g,g=w.heap.size:=⟨_,rfl⟩
 have b4:w.heap.size≤g4:=by omega
 have b5:w.heap.size≤g5:=by omega
 have n45:g4≠g5:=by omega
 rw [←hg5] at z5 ⊢
 rw [←hg4] at z4 ⊢
 rw [←hg2] at zQ c2
 rw [←hg2]
 clear hg2 hg4 hg5
 refine wp_region_growF 8 [8,9,10,11,12,13,6,7] [Fact.is (.pointer (some ⟨g2,0,none⟩)),Fact.z 3 (X),Fact.z 3 (((X).natAbs:Int)),Fact.is (.pointer (some ⟨g2,2,none⟩)),Fact.is (.int .i64 (n:Int)),Fact.z 3 (pw n),Fact.z0 W1.heap.size 31,Fact.z0 W1.heap.size 31] [6,7] (by kernel_rfl) (by kernel_rfl) ⟨?o0,?o1,?o2,?o3,?o4,?o5,?o6,?o7,trivial⟩ ?after
 case o0=>(refine oQF rfl ?_;intro ρ w1 R hcon hfn hρ hb hp hR;have e2:ρ (.tmp 2)=.pointer (some ⟨g2,0,none⟩):=hρ.tmp 2 rfl;replace hR:=fun v w2 h1 h2=>hR v w2 h1 h2 (fun h=>absurd h (by decide));clear hρ hp;unfold OpRun;go_simp;exact hR _ _ (Below.refl _ _) rfl)
 case o1=>(refine oQF rfl ?_;intro ρ w1 R hcon hfn hρ hb hp hR;have e8:ρ (.tmp 8)=_:=hp 0 8 rfl rfl;obtain ⟨ya9,yc9,yj9,yn9⟩:=ZV.below zQ hb;obtain ⟨j90,j91,-⟩:=yj9;replace hR:=fun v w2 h1 h2=>hR v w2 h1 h2 (fun h=>absurd h (by decide));clear hρ hp;unfold OpRun;go_simp;exact hR _ _ (Below.refl _ _) ⟨ya9,yc9,rfl,yn9⟩)
 case o2=>(refine oQF rfl ?_;intro ρ w1 R hcon hfn hρ hb hp hR;have f9:=hp 1 9 rfl rfl;replace hR:=fun v w2 h1 h2=>hR v w2 h1 h2 (fun h=>absurd h (by decide));clear hρ hp;unfold OpRun;go_simp;(refine (zabsD _ _ _ f9).mono ?_;rintro e wn ⟨v9,rfl,hz9,hbn⟩;exact ⟨_,rfl,hR _ _ hbn hz9⟩))
 case o3=>(refine oQF rfl ?_;intro ρ w1 R hcon hfn hρ hb hp hR;have e2:ρ (.tmp 2)=.pointer (some ⟨g2,0,none⟩):=hρ.tmp 2 rfl;replace hR:=fun v w2 h1 h2=>hR v w2 h1 h2 (fun h=>absurd h (by decide));clear hρ hp;unfold OpRun;go_simp;exact hR _ _ (Below.refl _ _) rfl)
 case o4=>(refine oQF rfl ?_;intro ρ w1 R hcon hfn hρ hb hp hR;have e11:ρ (.tmp 11)=_:=hp 3 11 rfl rfl;have j12:=(hb.cell (World.block_lt_of_cell? _ _ c2)).trans c2;replace hR:=fun v w2 h1 h2=>hR v w2 h1 h2 (fun h=>absurd h (by decide));clear hρ hp;unfold OpRun;go_simp;exact hR _ _ (Below.refl _ _) rfl)
 case o5=>(refine oQF rfl ?_;intro ρ w1 R hcon hfn hρ hb hp hR;have e12:ρ (.tmp 12)=_:=hp 4 12 rfl rfl;replace hR:=fun v w2 h1 h2=>hR v w2 h1 h2 (fun h=>absurd h (by decide));clear hρ hp;unfold OpRun;go_simp;(refine (zpowD n _ (by first|assumption|omega)).mono ?_;rintro e wn ⟨v9,rfl,hz9,hbn⟩;exact ⟨_,rfl,hR _ _ hbn hz9⟩))
 case o6=>(refine oQF rfl ?_;intro ρ w1 R hcon hfn hρ hb hp hR;clear hρ hp;unfold OpRun;go_simp;exact hR _ _ (below_alloc _ _) ⟨_,rfl,hb.size,ZL.made rfl⟩ (fun _=>⟨_,rfl,Nat.le_refl _,by simp⟩))
 case o7=>(refine oQF rfl ?_;intro ρ w1 R hcon hfn hρ hb hp hR;clear hρ hp;unfold OpRun;go_simp;exact hR _ _ (below_alloc _ _) ⟨_,rfl,hb.size,ZL.made rfl⟩ (fun _=>⟨_,rfl,Nat.le_refl _,by simp⟩))
 case after=>
  intro u wn hb hf hd
  have f10:=hf 2 10 (by omega) rfl
  have f13:=hf 5 13 (by omega) rfl
  have f6:=hf 6 6 (by omega) rfl
  have f7:=hf 7 7 (by omega) rfl
  have d6_7:u 6≠u 7:=hd 6 7 6 7 (by omega) (by omega) (by omega) rfl rfl rfl rfl
  clear hf hd
  simp only [putAll,Act.put,List.setIfInBounds_toArray,List.set_cons_zero,List.set_cons_succ,List.drop_succ_cons,List.drop_zero,List.drop_nil]
  obtain ⟨xa1,xc1,xe1,xn1⟩:=f10
  obtain ⟨xa2,xc2,xe2,xn2⟩:=f13
  obtain ⟨gv6,eg1,hg1,zz1⟩:=f6
  obtain ⟨gv7,eg2,hg2,zz2⟩:=f7
  have gne:gv6≠gv7:=by intro h;apply d6_7;rw [eg1,eg2,h]
  rw [xe1,xe2,eg1,eg2]
  clear xe1 xe2 eg1 eg2 d6_7
  have zst:=zv_store2 (by decide) hb hg1 hg2 gne zz1 zz2 xn1 xn2
  obtain ⟨k0,k1,kf0,kf1,-⟩:=id zz1
  obtain ⟨l0,l1,lf0,lf1,-⟩:=id zz2
  go_upto_region 2 with fail
  clear k0 k1 kf0 kf1 l0 l1 lf0 lf1 zz1 zz2 xn1 xn2 hb
  refine wp_worldZ (fun WW=>Below _ _ WW∧ZV _ _ WW _ _∧ZV _ _ WW _ _) zst ?_
  clear zst
  intro W2 ⟨y12,zv6,zv7⟩
  have y2:=below_trans yb1 y12
  have z4':=z4.below y12
  have z5':=z5.below y12
  have l4:=z4.lt
  have l5:=z5.lt
  have n47:g4≠gv7:=by omega
  have n46:g4≠gv6:=by omega
  have n57:g5≠gv7:=by omega
  have n56:g5≠gv6:=by omega
  clear z4 z5 zQ c2 yb1 y12 hg1 hg2 l4 l5
  go_upto_region 3 with fail
  refine wp_region_growM 5 4 [16,17,18,19,20] [Fact.z 3 ((X.natAbs:Int)),Fact.is (.int .i64 (p:Int)),Fact.z 3 (tenZ p),Fact.z 3 (((X.natAbs:Int))*(tenZ p)),Fact.z 3 (pw n)] [] (by kernel_rfl) (by kernel_rfl) rfl ⟨?o0,?o1,?o2,?o3,?o4,trivial⟩ ?late ?after
  case o0=>(refine oQF rfl ?_;intro ρ w1 R hcon hfn hρ hb hp hR;have e6:ρ (.tmp 6)=.pointer (some ⟨gv6,0,none⟩):=hρ.tmp 6 rfl;obtain ⟨ya9,yc9,yj9,yn9⟩:=ZV.below zv6 hb;obtain ⟨j90,j91,-⟩:=yj9;replace hR:=fun v w2 h1 h2=>hR v w2 h1 h2 (fun h=>absurd h (by decide));clear hρ hp;unfold OpRun;go_simp;exact hR _ _ (Below.refl _ _) ⟨ya9,yc9,rfl,yn9⟩)
  case o1=>(refine oQF rfl ?_;intro ρ w1 R hcon hfn hρ hb hp hR;have e1:ρ (.tmp 1)=.int .i64 (p:Int):=hρ.tmp 1 rfl;replace hR:=fun v w2 h1 h2=>hR v w2 h1 h2 (fun h=>absurd h (by decide));clear hρ hp;unfold OpRun;go_simp;exact hR _ _ (Below.refl _ _) rfl)
  case o2=>(refine oQF rfl ?_;intro ρ w1 R hcon hfn hρ hb hp hR;have e17:ρ (.tmp 17)=_:=hp 1 17 rfl rfl;replace hR:=fun v w2 h1 h2=>hR v w2 h1 h2 (fun h=>absurd h (by decide));clear hρ hp;unfold OpRun;go_simp;(refine (zTenD p _ (by first|assumption|omega)).mono ?_;rintro e wn ⟨v9,rfl,hz9,hbn⟩;exact ⟨_,rfl,hR _ _ hbn hz9⟩))
  case o3=>(refine oQF rfl ?_;intro ρ w1 R hcon hfn hρ hb hp hR;have f16:=hp 0 16 rfl rfl;have f18:=hp 2 18 rfl rfl;replace hR:=fun v w2 h1 h2=>hR v w2 h1 h2 (fun h=>absurd h (by decide));clear hρ hp;unfold OpRun;go_simp;(refine (zmulD _ _ _ _ _ f16 f18 (by first|assumption|omega) (by first|assumption|omega)).mono ?_;rintro e wn ⟨v9,rfl,hz9,hbn⟩;exact ⟨_,rfl,hR _ _ hbn hz9⟩))
  case o4=>(refine oQF rfl ?_;intro ρ w1 R hcon hfn hρ hb hp hR;have e7:ρ (.tmp 7)=.pointer (some ⟨gv7,0,none⟩):=hρ.tmp 7 rfl;obtain ⟨ya9,yc9,yj9,yn9⟩:=ZV.below zv7 hb;obtain ⟨j90,j91,-⟩:=yj9;replace hR:=fun v w2 h1 h2=>hR v w2 h1 h2 (fun h=>absurd h (by decide));clear hρ hp;unfold OpRun;go_simp;exact hR _ _ (Below.refl _ _) ⟨ya9,yc9,rfl,yn9⟩)
  case late=>
   intro o s ho hs
   simp only [List.getElem?_cons_succ,List.getElem?_cons_zero,Option.some.injEq] at ho hs
   subst ho
   subst hs
   intro ρ w1 hρ hb hp
   have e7:ρ (.tmp 7)=.pointer (some ⟨gv7,0,none⟩):=hρ.tmp 7 rfl
   have e4:ρ (.tmp 4)=.pointer (some ⟨g4,0,none⟩):=hρ.tmp 4 rfl
   have f19:=hp 3 19 (by omega) (by decide) rfl
   obtain ⟨ya,yc,yj,yn⟩:=zv7.below hb;obtain ⟨j0,j1,-⟩:=yj;obtain ⟨xa,xc,xe,xn⟩:=f19;obtain ⟨k0,k1,k2,k3,-⟩:=z4'.below hb
   have hcon:=hρ.con
   refine ⟨.agg #[.bool (zneg (pw n)),.slice ya (zl (pw n)).length yc],(w1.setCell ⟨g4,0,none⟩ (.bool (zneg (X.natAbs*tenZ p)))).setCell ⟨g4,1,none⟩ (.slice xa (zl (X.natAbs*tenZ p)).length xc),?_,⟨ya,yc,rfl,yn⟩,?_,?_⟩
   all_goals (go_simp;try rfl)
  case after=>
   intro u wn hb hf hd
   have f19:=hf 3 19 (by omega) rfl
   have f20:=hf 4 20 (by omega) rfl
   clear hf hd
   simp only [putAll,Act.put,List.setIfInBounds_toArray,List.set_cons_zero,List.set_cons_succ,List.drop_succ_cons,List.drop_zero,List.drop_nil]
   obtain ⟨xa1,xc1,xe1,xn1⟩:=f19
   obtain ⟨xa2,xc2,xe2,xn2⟩:=f20
   rw [xe1,xe2]
   clear xe1 xe2
   have zz4:=z4'.below hb
   have zz5:=z5'.below hb
   obtain ⟨k0,k1,kf0,kf1,-⟩:=id zz4
   obtain ⟨l0,l1,lf0,lf1,-⟩:=id zz5
   have zst:=zv_store2 (by decide) (below_trans y2 hb) b4 b5 n45 zz4 zz5 xn1 xn2
   go_wp2_with fail
   obtain ⟨hbw,⟨a8,c8,zl8,n8⟩,⟨a9,c9,zl9,n9⟩⟩:=zst
   obtain ⟨m0,m1,-⟩:=zl8
   obtain ⟨m2,m3,-⟩:=zl9
   refine bodyPost_ret (by simp [results,Tryz.results196,go_sem,m0,m1,m2,m3];try rfl) rfl ?_
   exact ⟨_,rfl,⟨_,_,_,_,rfl,n8,n9⟩,hbw⟩
theorem tenTimes_neg (X:Int) (n:Nat) (ao:Option Addr) (cap p:Nat) (w:World) (h0:Nz 3 w ao cap (zl X)) (hX:(zl X).length≤100000) (hn:n≤100000) (hp:p≤10000) (hp0:0<p):
 Calls Tryz.prog 196 #[.agg #[.bool (zneg X),.slice ao (zl X).length cap,.int .i64 (n:Int)],.int .i64 (-(p:Int))] w (RetZD2 3 w (X.natAbs:Int) (pw n*tenZ p)):=by
 have lt:=Nat.le_trans (zl_len_ten p) (show p+1≤100000000 by omega)
 have lP:=Nat.le_trans (zl_len_pw n) (show n+1≤100000000 by omega)
 have lX:(zl (X.natAbs:Int)).length≤100000000:=by rw [zl_nat];exact Nat.le_trans hX (by omega)
 have H0:=hid h0
 have hpn: ¬0≤ -(p:Int):=by omega
 clear h0
 go_enter Tryz.func196,Tryz.ntmps196
 go_upto_region 1 with fail
 refine wp_worldZ (fun WW=>Below w.heap.size w WW∧ZV 33 3 WW w.heap.size X∧WW.cell? ⟨w.heap.size,2,none⟩=some (.int .i64 (n:Int))∧ZL 31 WW (w.heap.size+1) false (.slice none 0 0)∧ZL 31 WW (w.heap.size+1+1) false (.slice none 0 0)) (tt_start 33 31 3 X n ao cap w H0.out) ?_
 intro W1 ⟨yb1,zQ,c2,z4,z5⟩
 obtain ⟨g5,hg5⟩: ∃g,g=w.heap.size+1+1:=⟨_,rfl⟩
 obtain ⟨g4,hg4⟩: ∃g,g=w.heap.size+1:=⟨_,rfl⟩
 obtain ⟨g2,hg2⟩: ∃g,g=w.heap.size:=⟨_,rfl⟩
 have b4:w.heap.size≤g4:=by omega
 have b5:w.heap.size≤g5:=by omega
 have n45:g4≠g5:=by omega
 rw [←hg5] at z5 ⊢
 rw [←hg4] at z4 ⊢
 rw [←hg2] at zQ c2
 rw [←hg2]
 clear hg2 hg4 hg5
 refine wp_region_growF 8 [8,9,10,11,12,13,6,7] [Fact.is (.pointer (some ⟨g2,0,none⟩)),Fact.z 3 (X),Fact.z 3 (((X).natAbs:Int)),Fact.is (.pointer (some ⟨g2,2,none⟩)),Fact.is (.int .i64 (n:Int)),Fact.z 3 (pw n),Fact.z0 W1.heap.size 31,Fact.z0 W1.heap.size 31] [6,7] (by kernel_rfl) (by kernel_rfl) ⟨?o0,?o1,?o2,?o3,?o4,?o5,?o6,?o7,trivial⟩ ?after
 case o0=>(refine oQF rfl ?_;intro ρ w1 R hcon hfn hρ hb hp hR;have e2:ρ (.tmp 2)=.pointer (some ⟨g2,0,none⟩):=hρ.tmp 2 rfl;replace hR:=fun v w2 h1 h2=>hR v w2 h1 h2 (fun h=>absurd h (by decide));clear hρ hp;unfold OpRun;go_simp;exact hR _ _ (Below.refl _ _) rfl)
 case o1=>(refine oQF rfl ?_;intro ρ w1 R hcon hfn hρ hb hp hR;have e8:ρ (.tmp 8)=_:=hp 0 8 rfl rfl;obtain ⟨ya9,yc9,yj9,yn9⟩:=ZV.below zQ hb;obtain ⟨j90,j91,-⟩:=yj9;replace hR:=fun v w2 h1 h2=>hR v w2 h1 h2 (fun h=>absurd h (by decide));clear hρ hp;unfold OpRun;go_simp;exact hR _ _ (Below.refl _ _) ⟨ya9,yc9,rfl,yn9⟩)
 case o2=>(refine oQF rfl ?_;intro ρ w1 R hcon hfn hρ hb hp hR;have f9:=hp 1 9 rfl rfl;replace hR:=fun v w2 h1 h2=>hR v w2 h1 h2 (fun h=>absurd h (by decide));clear hρ hp;unfold OpRun;go_simp;(refine (zabsD _ _ _ f9).mono ?_;rintro e wn ⟨v9,rfl,hz9,hbn⟩;exact ⟨_,rfl,hR _ _ hbn hz9⟩))
 case o3=>(refine oQF rfl ?_;intro ρ w1 R hcon hfn hρ hb hp hR;have e2:ρ (.tmp 2)=.pointer (some ⟨g2,0,none⟩):=hρ.tmp 2 rfl;replace hR:=fun v w2 h1 h2=>hR v w2 h1 h2 (fun h=>absurd h (by decide));clear hρ hp;unfold OpRun;go_simp;exact hR _ _ (Below.refl _ _) rfl)
 case o4=>(refine oQF rfl ?_;intro ρ w1 R hcon hfn hρ hb hp hR;have e11:ρ (.tmp 11)=_:=hp 3 11 rfl rfl;have j12:=(hb.cell (World.block_lt_of_cell? _ _ c2)).trans c2;replace hR:=fun v w2 h1 h2=>hR v w2 h1 h2 (fun h=>absurd h (by decide));clear hρ hp;unfold OpRun;go_simp;exact hR _ _ (Below.refl _ _) rfl)
 case o5=>(refine oQF rfl ?_;intro ρ w1 R hcon hfn hρ hb hp hR;have e12:ρ (.tmp 12)=_:=hp 4 12 rfl rfl;replace hR:=fun v w2 h1 h2=>hR v w2 h1 h2 (fun h=>absurd h (by decide));clear hρ hp;unfold OpRun;go_simp;(refine (zpowD n _ (by first|assumption|omega)).mono ?_;rintro e wn ⟨v9,rfl,hz9,hbn⟩;exact ⟨_,rfl,hR _ _ hbn hz9⟩))
 case o6=>(refine oQF rfl ?_;intro ρ w1 R hcon hfn hρ hb hp hR;clear hρ hp;unfold OpRun;go_simp;exact hR _ _ (below_alloc _ _) ⟨_,rfl,hb.size,ZL.made rfl⟩ (fun _=>⟨_,rfl,Nat.le_refl _,by simp⟩))
 case o7=>(refine oQF rfl ?_;intro ρ w1 R hcon hfn hρ hb hp hR;clear hρ hp;unfold OpRun;go_simp;exact hR _ _ (below_alloc _ _) ⟨_,rfl,hb.size,ZL.made rfl⟩ (fun _=>⟨_,rfl,Nat.le_refl _,by simp⟩))
 case after=>
  intro u wn hb hf hd
  have f10:=hf 2 10 (by omega) rfl
  have f13:=hf 5 13 (by omega) rfl
  have f6:=hf 6 6 (by omega) rfl
  have f7:=hf 7 7 (by omega) rfl
  have d6_7:u 6≠u 7:=hd 6 7 6 7 (by omega) (by omega) (by omega) rfl rfl rfl rfl
  clear hf hd
  simp only [putAll,Act.put,List.setIfInBounds_toArray,List.set_cons_zero,List.set_cons_succ,List.drop_succ_cons,List.drop_zero,List.drop_nil]
  obtain ⟨xa1,xc1,xe1,xn1⟩:=f10
  obtain ⟨xa2,xc2,xe2,xn2⟩:=f13
  obtain ⟨gv6,eg1,hg1,zz1⟩:=f6
  obtain ⟨gv7,eg2,hg2,zz2⟩:=f7
  have gne:gv6≠gv7:=by intro h;apply d6_7;rw [eg1,eg2,h]
  rw [xe1,xe2,eg1,eg2]
  clear xe1 xe2 eg1 eg2 d6_7
  have zst:=zv_store2 (by decide) hb hg1 hg2 gne zz1 zz2 xn1 xn2
  obtain ⟨k0,k1,kf0,kf1,-⟩:=id zz1
  obtain ⟨l0,l1,lf0,lf1,-⟩:=id zz2
  go_upto_region 2 with fail
  clear k0 k1 kf0 kf1 l0 l1 lf0 lf1 zz1 zz2 xn1 xn2 hb
  refine wp_worldZ (fun WW=>Below _ _ WW∧ZV _ _ WW _ _∧ZV _ _ WW _ _) zst ?_
  clear zst
  intro W2 ⟨y12,zv6,zv7⟩
  have y2:=below_trans yb1 y12
  have z4':=z4.below y12
  have z5':=z5.below y12
  have l4:=z4.lt
  have l5:=z5.lt
  have n47:g4≠gv7:=by omega
  have n46:g4≠gv6:=by omega
  have n57:g5≠gv7:=by omega
  have n56:g5≠gv6:=by omega
  clear z4 z5 zQ c2 yb1 y12 hg1 hg2 l4 l5
  go_upto_region 4 with fail
  refine wp_region_grow 6 [21,22,23,24,25,26] [Fact.z 3 ((X.natAbs:Int)),Fact.z 3 (pw n),Fact.is (.int .i64 (-(p:Int))),Fact.is (.int .i64 (p:Int)),Fact.z 3 (tenZ p),Fact.z 3 ((pw n)*(tenZ p))] (by kernel_rfl) (by kernel_rfl) ⟨?o0,?o1,?o2,?o3,?o4,?o5,trivial⟩ ?after
  case o0=>(refine oQ rfl ?_;intro ρ w1 R hcon hfn hρ hb hp hR;have e6:ρ (.tmp 6)=.pointer (some ⟨gv6,0,none⟩):=hρ.tmp 6 rfl;obtain ⟨ya9,yc9,yj9,yn9⟩:=ZV.below zv6 hb;obtain ⟨j90,j91,-⟩:=yj9;clear hρ hp;unfold OpRun;go_simp;exact hR _ _ (Below.refl _ _) ⟨ya9,yc9,rfl,yn9⟩)
  case o1=>(refine oQ rfl ?_;intro ρ w1 R hcon hfn hρ hb hp hR;have e7:ρ (.tmp 7)=.pointer (some ⟨gv7,0,none⟩):=hρ.tmp 7 rfl;obtain ⟨ya9,yc9,yj9,yn9⟩:=ZV.below zv7 hb;obtain ⟨j90,j91,-⟩:=yj9;clear hρ hp;unfold OpRun;go_simp;exact hR _ _ (Below.refl _ _) ⟨ya9,yc9,rfl,yn9⟩)
  case o2=>(refine oQ rfl ?_;intro ρ w1 R hcon hfn hρ hb hp hR;have e1:ρ (.tmp 1)=.int .i64 (-(p:Int)):=hρ.tmp 1 rfl;clear hρ hp;unfold OpRun;go_simp;exact hR _ _ (Below.refl _ _) rfl)
  case o3=>(refine oQ rfl ?_;intro ρ w1 R hcon hfn hρ hb hp hR;have e23:ρ (.tmp 23)=_:=hp 2 23 rfl rfl;have hwp:IntKind.i64.wrap (p:Int)=(p:Int):=IntWalk.i64_in _ (by omega);clear hρ hp;unfold OpRun;go_simp;exact hR _ _ (Below.refl _ _) rfl)
  case o4=>(refine oQ rfl ?_;intro ρ w1 R hcon hfn hρ hb hp hR;have e24:ρ (.tmp 24)=_:=hp 3 24 rfl rfl;clear hρ hp;unfold OpRun;go_simp;(refine (zTenD p _ (by first|assumption|omega)).mono ?_;rintro e wn ⟨v9,rfl,hz9,hbn⟩;exact ⟨_,rfl,hR _ _ hbn hz9⟩))
  case o5=>(refine oQ rfl ?_;intro ρ w1 R hcon hfn hρ hb hp hR;have f22:=hp 1 22 rfl rfl;have f25:=hp 4 25 rfl rfl;clear hρ hp;unfold OpRun;go_simp;(refine (zmulD _ _ _ _ _ f22 f25 (by first|assumption|omega) (by first|assumption|omega)).mono ?_;rintro e wn ⟨v9,rfl,hz9,hbn⟩;exact ⟨_,rfl,hR _ _ hbn hz9⟩))
  case after=>
   intro u wn hb hf
   have f21:=hf 0 21 (by omega) rfl
   have f26:=hf 5 26 (by omega) rfl
   clear hf
   simp only [putAll,Act.put,List.setIfInBounds_toArray,List.set_cons_zero,List.set_cons_succ,List.drop_succ_cons,List.drop_zero,List.drop_nil]
   obtain ⟨xa1,xc1,xe1,xn1⟩:=f21
   obtain ⟨xa2,xc2,xe2,xn2⟩:=f26
   rw [xe1,xe2]
   clear xe1 xe2
   have zz4:=z4'.below hb
   have zz5:=z5'.below hb
   obtain ⟨k0,k1,kf0,kf1,-⟩:=id zz4
   obtain ⟨l0,l1,lf0,lf1,-⟩:=id zz5
   have zst:=zv_store2 (by decide) (below_trans y2 hb) b4 b5 n45 zz4 zz5 xn1 xn2
   go_wp2_with fail
   obtain ⟨hbw,⟨a8,c8,zl8,n8⟩,⟨a9,c9,zl9,n9⟩⟩:=zst
   obtain ⟨m0,m1,-⟩:=zl8
   obtain ⟨m2,m3,-⟩:=zl9
   refine bodyPost_ret (by simp [results,Tryz.results196,go_sem,m0,m1,m2,m3];try rfl) rfl ?_
   exact ⟨_,rfl,⟨_,_,_,_,rfl,n8,n9⟩,hbw⟩
theorem tenTimes_any (v:Value) (D:Dy) (A T:Nat) (p:Int) (w:World) (hv:QD 3 w D A T v) (hA:A≤100000) (hT:T≤100000) (hp: -10000≤p∧p≤10000):
 Calls Tryz.prog 196 #[v,.int .i64 p] w (RetTT 3 w D p):=by
 obtain ⟨X,n,ao,cap,rfl,hN,hD,hX,hn⟩:=hv
 have hr:=nrm_ratio hD
 have lX:=zl_len_bits X A hX
 have key: ∀P:Nat,P≤10000→(zl (((X.natAbs*10^P:Nat)):Int)).length≤300000∧(zl (((2^n*10^P:Nat)):Int)).length≤300000:=by
  intro P hP
  have h1:(10:Nat)^P≤(2^4)^P:=Nat.pow_le_pow_left (by decide) P
  rw [←Nat.pow_mul] at h1
  have h2:0<10^P:=Nat.pow_pos (by omega)
  constructor
  ·refine Nat.le_trans (zl_len_bits _ (A+4*P) ?_) (by omega)
   rw [Int.natAbs_natCast,Nat.pow_add]
   exact Nat.lt_of_lt_of_le (Nat.mul_lt_mul_of_pos_right hX h2) (Nat.mul_le_mul_left _ h1)
  ·refine Nat.le_trans (zl_len_bits _ (n+1+4*P) ?_) (by omega)
   rw [Int.natAbs_natCast,Nat.pow_add]
   exact Nat.lt_of_lt_of_le (Nat.mul_lt_mul_of_pos_right (Nat.pow_lt_pow_right (by omega) (Nat.lt_succ_self n)) h2) (Nat.mul_le_mul_left _ h1)
 by_cases h:0≤p
 ·obtain ⟨P,rfl⟩:=Int.eq_ofNat_of_zero_le h
  obtain ⟨k1,-⟩:=key P (by omega)
  obtain ⟨-,k2⟩:=key 0 (by omega)
  rw [Nat.pow_zero,Nat.mul_one] at k2
  refine (tenTimes_pos X n ao cap P w hN (by omega) (by omega) (by omega)).mono ?_
  rintro e w' ⟨v,h1,h2,h3⟩
  refine ⟨X.natAbs*10^P,2^n,v,h1,?_,Nat.two_pow_pos n,?_,k1,k2,h3⟩
  ·rw [Int.natCast_mul];exact h2
  ·unfold tnN
   rw [show (-(P:Int)).toNat=0 by omega,Int.toNat_natCast,Nat.pow_zero,Nat.mul_one,Nat.mul_right_comm,hr,Nat.mul_right_comm]
 ·obtain ⟨P,hP⟩: ∃P:Nat,p= -(P:Int):=⟨(-p).toNat,by omega⟩
  subst hP
  obtain ⟨-,k1⟩:=key P (by omega)
  obtain ⟨k2,-⟩:=key 0 (by omega)
  rw [Nat.pow_zero,Nat.mul_one] at k2
  refine (tenTimes_neg X n ao cap P w hN (by omega) (by omega) (by omega) (by omega)).mono ?_
  rintro e w' ⟨v,h1,h2,h3⟩
  refine ⟨X.natAbs,2^n*10^P,v,h1,?_,Nat.mul_pos (Nat.two_pow_pos n) (Nat.pow_pos (by omega)),?_,k2,k1,h3⟩
  ·rw [Int.natCast_mul];exact h2
  ·unfold tnN
   rw [show (-(P:Int)).toNat=0 by omega,show (- -(P:Int)).toNat=P by omega,Nat.pow_zero,Nat.mul_one,←Nat.mul_assoc,hr,Nat.mul_assoc]
end Go.Proofs.YtfphmlmgjhebjaaGreatDoor
namespace Go.Ulp
open Go.RowKit
theorem bs_take (E:List UInt8) (k:Nat):(bsOf E).extract 0 k=bsOf (E.take k):=by
 apply ByteArray.ext
 simp [bsOf]
theorem bs_drop (E:List UInt8) (k:Nat):(bsOf E).extract k (bsOf E).size=bsOf (E.drop k):=by
 apply ByteArray.ext
 have h9:List.take (E.length-k) (List.drop k E)=List.drop k E:=List.take_of_length_le (by rw [List.length_drop];omega)
 simp [bsOf,ByteArray.size]
 try exact h9
theorem slice_to {P:Program} {t:TypeId} (ht:P.underlying t=some .string) (E:List UInt8) (j:Int) (h0:0≤j) (h:j≤E.length) (w:World):(Instr.slice t (.string (bsOf E)) none (some (.int .i64 j)) none).run P w=.ok (.string (bsOf (E.take j.toNat))) w:=by
 rw [run_slice_string_to_if w t _ _ _ ht,if_pos ⟨h0,by rw [bs_size];exact h⟩,bs_take]
theorem slice_from {P:Program} {t:TypeId} (ht:P.underlying t=some .string) (E:List UInt8) (j:Int) (h0:0≤j) (h:j≤E.length) (w:World):(Instr.slice t (.string (bsOf E)) (some (.int .i64 j)) none none).run P w=.ok (.string (bsOf (E.drop j.toNat))) w:=by
 rw [run_slice_string_from_if w t _ _ _ ht,if_pos ⟨h0,by rw [bs_size];exact h⟩,bs_drop]
theorem padz_end (D:List UInt8) (j k:Nat) (h1:j=0∨j+D.length≤k) (h2: ¬j+D.length<k):List.replicate j 48++D=padz k D:=by
 unfold padz
 congr 2
 omega
end Go.Ulp
namespace Go.Proofs.YtfphmlmgjhebjaaGreatDoor
open Go.RowKit Go.Ulp
set_option maxHeartbeats 1000000
set_option maxRecDepth 100000
theorem point_any (D:List UInt8) (p:Nat) (w:World) (hD:D.length≤10000000) (hp:p≤10000000):
 Calls Tryz.prog 185 #[.string (bsOf D),.int .i64 (p:Int)] w fun e w'=>e=.returned (.string (bsOf (ptd D p)))∧Below w.heap.size w w':=by
 obtain ⟨l,hl⟩: ∃l,l=D.length:=⟨_,rfl⟩
 have hsz:(bsOf D).size=l:=by rw [bs_size,hl]
 by_cases h0:p=0
 ·subst h0
  rw [ptd_zero]
  go_enter Tryz.func185,Tryz.ntmps185
  go_wp2_with fail
  go_ret
  exact ⟨rfl,Below.refl _ _⟩
 ·have hpz:((p:Int)==0)=false:=beq_eq_false_iff_ne.2 (by omega)
  obtain ⟨E,hE⟩: ∃E,E=padz (p+1) D:=⟨_,rfl⟩
  have hEl:E.length=max (p+1) l:=by rw [hE,padz_len,hl]
  obtain ⟨e,he⟩: ∃e,e=E.length:=⟨_,rfl⟩
  have hez:(bsOf E).size=e:=by rw [bs_size,he]
  obtain ⟨c,hc⟩: ∃c:Nat,c=e-p:=⟨_,rfl⟩
  have hce:(e:Int)-(p:Int)=(c:Int):=by omega
  have hwc:IntKind.i64.wrap (c:Int)=(c:Int):=IntWalk.i64_in _ (by omega)
  have hS1:=slice_to (P:=Tryz.prog) Tryz.underlying9 E (c:Int) (by omega) (by omega)
  have hS2:=slice_from (P:=Tryz.prog) Tryz.underlying9 E (c:Int) (by omega) (by omega)
  rw [Int.toNat_natCast] at hS1 hS2
  have hA1:=add_bs (P:=Tryz.prog) (E.take c) [46] (by simp;omega)
  have hA2:=add_bs (P:=Tryz.prog) (E.take c++ [46]) (E.drop c) (by simp;omega)
  have HR:=hid (show ptd D p=E.take c++46::E.drop c by
   rw [ptd_pos D p (by omega),←hE,←he,←hc])
  have hb46:(ByteArray.mk #[46])=bsOf [46]:=rfl
  by_cases hlp:l≤p
  ·obtain ⟨k,hk⟩: ∃k:Nat,k=p+1-l:=⟨_,rfl⟩
   have hke:(p:Int)+1-(l:Int)=(k:Int):=by omega
   have RP:=hid (show ∀w,Calls Tryz.prog 70 #[.string ⟨#[48]⟩,.int .i64 (k:Int)] w fun e w'=>e=.returned (.string (bsOf (List.replicate k 48)))∧Below w.heap.size w w' from fun w=>repeat_any 48 k (by omega) w)
   have hA0: ∀w,(Op.stringOp .add (bsOf (List.replicate k 48)) (bsOf D)).run Tryz.prog w=.ok (.string (bsOf E)) w:=fun w=>by
    rw [add_bs _ _ (by simp;omega)]
    have:List.replicate k 48++D=E:=by rw [hE];unfold padz;rw [←hl,←hk]
    rw [this]
   clear hE hEl hl he hc hk h0
   go_enter Tryz.func185,Tryz.ntmps185
   go_upto_region 5 with (go_at_call 70;(with_reducible refine (RP.out _).mono ?_);rintro en w1 ⟨rfl,hb1⟩)
   refine wp_region_grow 15 [20,21,22,23,24,25,26,27,28,29,30,31,32,33,4] [Fact.is (.string (bsOf E)),Fact.is (.string (bsOf E)),Fact.is (.int .i64 (e:Int)),Fact.is (.int .i64 (p:Int)),Fact.is (.int .i64 (c:Int)),Fact.is (.string (bsOf (E.take c))),Fact.is (.string (bsOf (E.take c++ [46]))),Fact.is (.string (bsOf E)),Fact.is (.string (bsOf E)),Fact.is (.int .i64 (e:Int)),Fact.is (.int .i64 (p:Int)),Fact.is (.int .i64 (c:Int)),Fact.is (.string (bsOf (E.drop c))),Fact.is (.string (bsOf (E.take c++46::E.drop c))),Fact.is (.string (bsOf (E.take c++46::E.drop c)))] (by kernel_rfl) (by kernel_rfl) ⟨?o0,?o1,?o2,?o3,?o4,?o5,?o6,?o7,?o8,?o9,?o10,?o11,?o12,?o13,?o14,trivial⟩ ?after
   case o0=>(refine oQ rfl ?_;intro ρ w1 R hcon hfn hρ hb hp hR;have e0:ρ (.tmp 0)=.string (bsOf E):=hρ.tmp 0 rfl;clear hρ hp;unfold OpRun;go_simp;exact hR _ _ (Below.refl _ _) rfl)
   case o1=>(refine oQ rfl ?_;intro ρ w1 R hcon hfn hρ hb hp hR;have e0:ρ (.tmp 0)=.string (bsOf E):=hρ.tmp 0 rfl;clear hρ hp;unfold OpRun;go_simp;exact hR _ _ (Below.refl _ _) rfl)
   case o2=>(refine oQ rfl ?_;intro ρ w1 R hcon hfn hρ hb hp hR;have e21:ρ (.tmp 21)=_:=hp 1 21 rfl rfl;clear hρ hp;unfold OpRun;go_simp;exact hR _ _ (Below.refl _ _) rfl)
   case o3=>(refine oQ rfl ?_;intro ρ w1 R hcon hfn hρ hb hp hR;have e1:ρ (.tmp 1)=.int .i64 (p:Int):=hρ.tmp 1 rfl;clear hρ hp;unfold OpRun;go_simp;exact hR _ _ (Below.refl _ _) rfl)
   case o4=>(refine oQ rfl ?_;intro ρ w1 R hcon hfn hρ hb hp hR;have e22:ρ (.tmp 22)=_:=hp 2 22 rfl rfl;have e23:ρ (.tmp 23)=_:=hp 3 23 rfl rfl;clear hρ hp;unfold OpRun;go_simp;exact hR _ _ (Below.refl _ _) rfl)
   case o5=>(refine oQ rfl ?_;intro ρ w1 R hcon hfn hρ hb hp hR;have e20:ρ (.tmp 20)=_:=hp 0 20 rfl rfl;have e24:ρ (.tmp 24)=_:=hp 4 24 rfl rfl;clear hρ hp;unfold OpRun;go_simp;exact hR _ _ (Below.refl _ _) rfl)
   case o6=>(refine oQ rfl ?_;intro ρ w1 R hcon hfn hρ hb hp hR;have e25:ρ (.tmp 25)=_:=hp 5 25 rfl rfl;clear hρ hp;unfold OpRun;go_simp;exact hR _ _ (Below.refl _ _) rfl)
   case o7=>(refine oQ rfl ?_;intro ρ w1 R hcon hfn hρ hb hp hR;have e0:ρ (.tmp 0)=.string (bsOf E):=hρ.tmp 0 rfl;clear hρ hp;unfold OpRun;go_simp;exact hR _ _ (Below.refl _ _) rfl)
   case o8=>(refine oQ rfl ?_;intro ρ w1 R hcon hfn hρ hb hp hR;have e0:ρ (.tmp 0)=.string (bsOf E):=hρ.tmp 0 rfl;clear hρ hp;unfold OpRun;go_simp;exact hR _ _ (Below.refl _ _) rfl)
   case o9=>(refine oQ rfl ?_;intro ρ w1 R hcon hfn hρ hb hp hR;have e28:ρ (.tmp 28)=_:=hp 8 28 rfl rfl;clear hρ hp;unfold OpRun;go_simp;exact hR _ _ (Below.refl _ _) rfl)
   case o10=>(refine oQ rfl ?_;intro ρ w1 R hcon hfn hρ hb hp hR;have e1:ρ (.tmp 1)=.int .i64 (p:Int):=hρ.tmp 1 rfl;clear hρ hp;unfold OpRun;go_simp;exact hR _ _ (Below.refl _ _) rfl)
   case o11=>(refine oQ rfl ?_;intro ρ w1 R hcon hfn hρ hb hp hR;have e29:ρ (.tmp 29)=_:=hp 9 29 rfl rfl;have e30:ρ (.tmp 30)=_:=hp 10 30 rfl rfl;clear hρ hp;unfold OpRun;go_simp;exact hR _ _ (Below.refl _ _) rfl)
   case o12=>(refine oQ rfl ?_;intro ρ w1 R hcon hfn hρ hb hp hR;have e27:ρ (.tmp 27)=_:=hp 7 27 rfl rfl;have e31:ρ (.tmp 31)=_:=hp 11 31 rfl rfl;clear hρ hp;unfold OpRun;go_simp;exact hR _ _ (Below.refl _ _) rfl)
   case o13=>(refine oQ rfl ?_;intro ρ w1 R hcon hfn hρ hb hp hR;have e26:ρ (.tmp 26)=_:=hp 6 26 rfl rfl;have e32:ρ (.tmp 32)=_:=hp 12 32 rfl rfl;clear hρ hp;unfold OpRun;go_simp;exact hR _ _ (Below.refl _ _) rfl)
   case o14=>(refine oQ rfl ?_;intro ρ w1 R hcon hfn hρ hb hp hR;have e33:ρ (.tmp 33)=_:=hp 13 33 rfl rfl;clear hρ hp;unfold OpRun;go_simp;exact hR _ _ (Below.refl _ _) rfl)
   case after=>
    intro u wn hb hf
    have e4:u 4=_:=hf 14 4 (by omega) rfl
    clear hf
    simp only [putAll,Act.put,List.setIfInBounds_toArray,List.set_cons_zero,List.set_cons_succ,List.drop_succ_cons,List.drop_zero,List.drop_nil]
    rw [e4]
    go_wp2_with fail
    go_ret
    exact ⟨by rw [HR.out];rfl,below_trans hb1 hb⟩
  ·have hED:D=E:=by rw [hE,padz_long _ _ (by omega)]
   have hlE:l=e:=by rw [hl,hED,he]
   clear hE hEl hl he hc h0
   subst hlE
   rw [hED] at hsz ⊢
   rw [hED] at HR
   clear hED
   go_enter Tryz.func185,Tryz.ntmps185
   go_upto_region 5 with fail
   refine wp_region_grow 15 [20,21,22,23,24,25,26,27,28,29,30,31,32,33,4] [Fact.is (.string (bsOf E)),Fact.is (.string (bsOf E)),Fact.is (.int .i64 (l:Int)),Fact.is (.int .i64 (p:Int)),Fact.is (.int .i64 (c:Int)),Fact.is (.string (bsOf (E.take c))),Fact.is (.string (bsOf (E.take c++ [46]))),Fact.is (.string (bsOf E)),Fact.is (.string (bsOf E)),Fact.is (.int .i64 (l:Int)),Fact.is (.int .i64 (p:Int)),Fact.is (.int .i64 (c:Int)),Fact.is (.string (bsOf (E.drop c))),Fact.is (.string (bsOf (E.take c++46::E.drop c))),Fact.is (.string (bsOf (E.take c++46::E.drop c)))] (by kernel_rfl) (by kernel_rfl) ⟨?o0,?o1,?o2,?o3,?o4,?o5,?o6,?o7,?o8,?o9,?o10,?o11,?o12,?o13,?o14,trivial⟩ ?after
   case o0=>(refine oQ rfl ?_;intro ρ w1 R hcon hfn hρ hb hp hR;have e0:ρ (.tmp 0)=.string (bsOf E):=hρ.tmp 0 rfl;clear hρ hp;unfold OpRun;go_simp;exact hR _ _ (Below.refl _ _) rfl)
   case o1=>(refine oQ rfl ?_;intro ρ w1 R hcon hfn hρ hb hp hR;have e0:ρ (.tmp 0)=.string (bsOf E):=hρ.tmp 0 rfl;clear hρ hp;unfold OpRun;go_simp;exact hR _ _ (Below.refl _ _) rfl)
   case o2=>(refine oQ rfl ?_;intro ρ w1 R hcon hfn hρ hb hp hR;have e21:ρ (.tmp 21)=_:=hp 1 21 rfl rfl;clear hρ hp;unfold OpRun;go_simp;exact hR _ _ (Below.refl _ _) rfl)
   case o3=>(refine oQ rfl ?_;intro ρ w1 R hcon hfn hρ hb hp hR;have e1:ρ (.tmp 1)=.int .i64 (p:Int):=hρ.tmp 1 rfl;clear hρ hp;unfold OpRun;go_simp;exact hR _ _ (Below.refl _ _) rfl)
   case o4=>(refine oQ rfl ?_;intro ρ w1 R hcon hfn hρ hb hp hR;have e22:ρ (.tmp 22)=_:=hp 2 22 rfl rfl;have e23:ρ (.tmp 23)=_:=hp 3 23 rfl rfl;clear hρ hp;unfold OpRun;go_simp;exact hR _ _ (Below.refl _ _) rfl)
   case o5=>(refine oQ rfl ?_;intro ρ w1 R hcon hfn hρ hb hp hR;have e20:ρ (.tmp 20)=_:=hp 0 20 rfl rfl;have e24:ρ (.tmp 24)=_:=hp 4 24 rfl rfl;clear hρ hp;unfold OpRun;go_simp;exact hR _ _ (Below.refl _ _) rfl)
   case o6=>(refine oQ rfl ?_;intro ρ w1 R hcon hfn hρ hb hp hR;have e25:ρ (.tmp 25)=_:=hp 5 25 rfl rfl;clear hρ hp;unfold OpRun;go_simp;exact hR _ _ (Below.refl _ _) rfl)
   case o7=>(refine oQ rfl ?_;intro ρ w1 R hcon hfn hρ hb hp hR;have e0:ρ (.tmp 0)=.string (bsOf E):=hρ.tmp 0 rfl;clear hρ hp;unfold OpRun;go_simp;exact hR _ _ (Below.refl _ _) rfl)
   case o8=>(refine oQ rfl ?_;intro ρ w1 R hcon hfn hρ hb hp hR;have e0:ρ (.tmp 0)=.string (bsOf E):=hρ.tmp 0 rfl;clear hρ hp;unfold OpRun;go_simp;exact hR _ _ (Below.refl _ _) rfl)
   case o9=>(refine oQ rfl ?_;intro ρ w1 R hcon hfn hρ hb hp hR;have e28:ρ (.tmp 28)=_:=hp 8 28 rfl rfl;clear hρ hp;unfold OpRun;go_simp;exact hR _ _ (Below.refl _ _) rfl)
   case o10=>(refine oQ rfl ?_;intro ρ w1 R hcon hfn hρ hb hp hR;have e1:ρ (.tmp 1)=.int .i64 (p:Int):=hρ.tmp 1 rfl;clear hρ hp;unfold OpRun;go_simp;exact hR _ _ (Below.refl _ _) rfl)
   case o11=>(refine oQ rfl ?_;intro ρ w1 R hcon hfn hρ hb hp hR;have e29:ρ (.tmp 29)=_:=hp 9 29 rfl rfl;have e30:ρ (.tmp 30)=_:=hp 10 30 rfl rfl;clear hρ hp;unfold OpRun;go_simp;exact hR _ _ (Below.refl _ _) rfl)
   case o12=>(refine oQ rfl ?_;intro ρ w1 R hcon hfn hρ hb hp hR;have e27:ρ (.tmp 27)=_:=hp 7 27 rfl rfl;have e31:ρ (.tmp 31)=_:=hp 11 31 rfl rfl;clear hρ hp;unfold OpRun;go_simp;exact hR _ _ (Below.refl _ _) rfl)
   case o13=>(refine oQ rfl ?_;intro ρ w1 R hcon hfn hρ hb hp hR;have e26:ρ (.tmp 26)=_:=hp 6 26 rfl rfl;have e32:ρ (.tmp 32)=_:=hp 12 32 rfl rfl;clear hρ hp;unfold OpRun;go_simp;exact hR _ _ (Below.refl _ _) rfl)
   case o14=>(refine oQ rfl ?_;intro ρ w1 R hcon hfn hρ hb hp hR;have e33:ρ (.tmp 33)=_:=hp 13 33 rfl rfl;clear hρ hp;unfold OpRun;go_simp;exact hR _ _ (Below.refl _ _) rfl)
   case after=>
    intro u wn hb hf
    have e4:u 4=_:=hf 14 4 (by omega) rfl
    clear hf
    simp only [putAll,Act.put,List.setIfInBounds_toArray,List.set_cons_zero,List.set_cons_succ,List.drop_succ_cons,List.drop_zero,List.drop_nil]
    rw [e4]
    go_wp2_with fail
    go_ret
    exact ⟨by rw [HR.out];rfl,hb⟩
theorem signT_any (x:Int) (h0:0≤x) (h1:x<18446744073709551616) (w:World):
 Calls Tryz.prog 184 #[.int .u64 x] w fun e w'=>e=.returned (.string (bsOf (if negB x=true then [45] else [])))∧w=w':=by
 by_cases h:9223372036854775808≤x
 ·have hn:negB x=true:=decide_eq_true h
  rw [hn]
  have hs:x/9223372036854775808=1:=by omega
  go_enter Tryz.func184,Tryz.ntmps184
  go_wp2_with fail
  go_ret
  exact ⟨rfl,rfl⟩
 ·have hn:negB x=false:=decide_eq_false h
  rw [hn]
  have hs:x/9223372036854775808=0:=by omega
  go_enter Tryz.func184,Tryz.ntmps184
  go_wp2_with fail
  go_ret
  exact ⟨rfl,rfl⟩
theorem pointed_any (v:Value) (m p:Nat) (w:World) (hv:ZD 3 w (m:Int) v) (hl:(zl (m:Int)).length≤1000000) (hp:p≤10000000):
 Calls Tryz.prog 199 #[v,.int .i64 (p:Int)] w fun e w'=>e=.returned (.string (bsOf (ptd (decD m) p)))∧Below w.heap.size w w':=by
 obtain ⟨a,c,rfl,hN⟩:=hv
 have ZT:=hid (show ∀w,Nz 3 w a c (zl (m:Int))→Calls Tryz.prog 202 #[.agg #[.bool (zneg (m:Int)),.slice a (zl (m:Int)).length c]] w fun e w'=>e=.returned (.string (bsOf (decD m)))∧Below w.heap.size w w' from fun w h=>by
  have h9:=zText_any (m:Int) a c w h hl
  unfold zTx at h9
  rwa [if_neg (by omega),Int.natAbs_natCast] at h9)
 obtain ⟨D,hD⟩: ∃D,D=decD m:=⟨_,rfl⟩
 rw [←hD] at ZT ⊢
 have hDl:D.length≤4*1000000+1:=by
  have h9:=zl_len_bits
  rcases Nat.eq_zero_or_pos m with h0|h0
  ·rw [hD,h0,decD_small (by omega)];simp
  ·have h1:=txt_end m h0
   have h2:=txt_len (decs m) (decs_lim m) (decs m).length (Nat.le_refl _)
   rw [h1] at h2
   have h3:(zl (m:Int)).length=(decs m).length:=by rw [zl_nat]
   rw [hD];omega
 have hDp:0<D.length:=by rw [hD];exact decD_pos m
 obtain ⟨l,hlD⟩: ∃l,l=D.length:=⟨_,rfl⟩
 obtain ⟨E,hE⟩: ∃E,E=padz (p+1) D:=⟨_,rfl⟩
 have hEl:E.length=max (p+1) l:=by rw [hE,padz_len,hlD]
 obtain ⟨e,he⟩: ∃e,e=E.length:=⟨_,rfl⟩
 have hez:(bsOf E).size=e:=by rw [bs_size,he]
 obtain ⟨k,hk⟩: ∃k:Nat,k=e-p:=⟨_,rfl⟩
 have hke:(e:Int)-(p:Int)=(k:Int):=by omega
 have hwk:IntKind.i64.wrap (k:Int)=(k:Int):=IntWalk.i64_in _ (by omega)
 have hS1:=slice_to (P:=Tryz.prog) Tryz.underlying9 E (k:Int) (by omega) (by omega)
 have hS2:=slice_from (P:=Tryz.prog) Tryz.underlying9 E (k:Int) (by omega) (by omega)
 rw [Int.toNat_natCast] at hS1 hS2
 have hA1:=add_bs (P:=Tryz.prog) (E.take k) [46] (by simp;omega)
 have hA2:=add_bs (P:=Tryz.prog) (E.take k++ [46]) (E.drop k) (by simp;omega)
 have HR:=hid (show ptd D p=if p=0 then E else E.take k++46::E.drop k by
  by_cases h0:p=0
  ·rw [if_pos h0,h0,ptd_zero,hE,h0,padz_long _ _ (by omega)]
  ·rw [if_neg h0,ptd_pos D p (by omega),←hE,←he,←hk])
 have hb46:(ByteArray.mk #[46])=bsOf [46]:=rfl
 have HN:=hid hN
 have HE:=hid hE
 have HLD:=hid hlD
 have zA:ZL 31 (w.alloc (.cells #[.bool (zneg (m:Int)),.slice a (zl (m:Int)).length c] 31)) w.heap.size (zneg (m:Int)) (.slice a (zl (m:Int)).length c):=ZL.made rfl
 have yb:=below_alloc w (.cells #[.bool (zneg (m:Int)),.slice a (zl (m:Int)).length c] 31)
 have HN':=hid (HN.out.below yb)
 obtain ⟨j0,j1,-⟩:=zA
 clear hN hl hD hE hEl he hk
 go_enter Tryz.func199,Tryz.ntmps199
 go_upto_region 2 with (go_at_call 202;(with_reducible refine (ZT.out _ HN'.out).mono ?_);rintro en w1 ⟨rfl,hb1⟩)
 have y1:=below_trans yb hb1
 clear j0 j1 yb hb1 HN HN' ZT
 go_loopw [5] (fun s5 wr=> ∃j:Nat,s5=.string (bsOf (List.replicate j 48++D))∧(j=0∨j+l≤p+1)∧wr=w1) (fun s5 _=>p+1-strSz s5)
 case atStart=>exact ⟨0,rfl,.inl rfl,rfl⟩
 case round=>
  obtain ⟨j,rfl,hj,rfl⟩:=hrel
  obtain ⟨X,hX⟩: ∃X,X=List.replicate j 48++D:=⟨_,rfl⟩
  have hXl:X.length=j+l:=by rw [hX,List.length_append,List.length_replicate,←HLD.out]
  obtain ⟨x,hx⟩: ∃x,x=X.length:=⟨_,rfl⟩
  have hsz:(bsOf X).size=x:=by rw [bs_size,hx]
  have hx8:x≤100000000:=by rcases hj with hj|hj<;>omega
  have hAN:=add_nil (P:=Tryz.prog) X (by omega)
  rw [←hX]
  by_cases hp:x≤p
  ·have HX:=hid hX
   have HXL:=hid (show x=j+l by omega)
   have HXX:=hid hx
   clear hX hXl hx hj hS1 hS2 hA1 hA2
   go_wp2_with fail
   go_roundw
   case rel=>exact ⟨j+1,by rw [HX.out];rfl,.inr (by have:=HXL.out;omega),by first|rfl|trivial⟩
   case measure=>rw [strSz_bs,strSz_bs,List.length_cons,←HXX.out];omega
  ·have hXE:X=E:=by
    rw [HE.out,hX]
    exact padz_end D j (p+1) (by rw [←HLD.out];exact hj) (by rw [←HLD.out];omega)
   have hxe:x=e:=by rw [hXE,bs_size] at hsz;rw [bs_size] at hez;omega
   clear hX hXl hx hj hAN hsz
   subst hXE hxe
   by_cases hp0:p=0
   ·have HRR:=hid (show ptd D p=X by rw [HR.out,if_pos hp0])
    have hpz:((p:Int)==0)=true:=by rw [hp0];rfl
    clear HR hS1 hS2 hA1 hA2
    go_wp2_with fail
    go_ret
    exact ⟨by rw [HRR.out];rfl,y1⟩
   ·have HRR:=hid (show ptd D p=X.take k++46::X.drop k by rw [HR.out,if_neg hp0])
    have hpz:((p:Int)==0)=false:=beq_eq_false_iff_ne.2 (by omega)
    clear HR hp0
    go_upto_region 6 with fail
    refine wp_region_grow 15 [17,18,19,20,21,22,23,24,25,26,27,28,29,30,4] [Fact.is (.string (bsOf X)),Fact.is (.string (bsOf X)),Fact.is (.int .i64 (x:Int)),Fact.is (.int .i64 (p:Int)),Fact.is (.int .i64 (k:Int)),Fact.is (.string (bsOf (X.take k))),Fact.is (.string (bsOf (X.take k++ [46]))),Fact.is (.string (bsOf X)),Fact.is (.string (bsOf X)),Fact.is (.int .i64 (x:Int)),Fact.is (.int .i64 (p:Int)),Fact.is (.int .i64 (k:Int)),Fact.is (.string (bsOf (X.drop k))),Fact.is (.string (bsOf (X.take k++46::X.drop k))),Fact.is (.string (bsOf (X.take k++46::X.drop k)))] (by kernel_rfl) (by kernel_rfl) ⟨?o0,?o1,?o2,?o3,?o4,?o5,?o6,?o7,?o8,?o9,?o10,?o11,?o12,?o13,?o14,trivial⟩ ?after
    case o0=>(refine oQ rfl ?_;intro ρ w1 R hcon hfn hρ hb hp hR;have e5:ρ (.tmp 5)=.string (bsOf X):=hρ.tmp 5 rfl;clear hρ hp;unfold OpRun;go_simp;exact hR _ _ (Below.refl _ _) rfl)
    case o1=>(refine oQ rfl ?_;intro ρ w1 R hcon hfn hρ hb hp hR;have e5:ρ (.tmp 5)=.string (bsOf X):=hρ.tmp 5 rfl;clear hρ hp;unfold OpRun;go_simp;exact hR _ _ (Below.refl _ _) rfl)
    case o2=>(refine oQ rfl ?_;intro ρ w1 R hcon hfn hρ hb hp hR;have e18:ρ (.tmp 18)=_:=hp 1 18 rfl rfl;clear hρ hp;unfold OpRun;go_simp;exact hR _ _ (Below.refl _ _) rfl)
    case o3=>(refine oQ rfl ?_;intro ρ w1 R hcon hfn hρ hb hp hR;have e1:ρ (.tmp 1)=.int .i64 (p:Int):=hρ.tmp 1 rfl;clear hρ hp;unfold OpRun;go_simp;exact hR _ _ (Below.refl _ _) rfl)
    case o4=>(refine oQ rfl ?_;intro ρ w1 R hcon hfn hρ hb hp hR;have e19:ρ (.tmp 19)=_:=hp 2 19 rfl rfl;have e20:ρ (.tmp 20)=_:=hp 3 20 rfl rfl;clear hρ hp;unfold OpRun;go_simp;exact hR _ _ (Below.refl _ _) rfl)
    case o5=>(refine oQ rfl ?_;intro ρ w1 R hcon hfn hρ hb hp hR;have e17:ρ (.tmp 17)=_:=hp 0 17 rfl rfl;have e21:ρ (.tmp 21)=_:=hp 4 21 rfl rfl;clear hρ hp;unfold OpRun;go_simp;exact hR _ _ (Below.refl _ _) rfl)
    case o6=>(refine oQ rfl ?_;intro ρ w1 R hcon hfn hρ hb hp hR;have e22:ρ (.tmp 22)=_:=hp 5 22 rfl rfl;clear hρ hp;unfold OpRun;go_simp;exact hR _ _ (Below.refl _ _) rfl)
    case o7=>(refine oQ rfl ?_;intro ρ w1 R hcon hfn hρ hb hp hR;have e5:ρ (.tmp 5)=.string (bsOf X):=hρ.tmp 5 rfl;clear hρ hp;unfold OpRun;go_simp;exact hR _ _ (Below.refl _ _) rfl)
    case o8=>(refine oQ rfl ?_;intro ρ w1 R hcon hfn hρ hb hp hR;have e5:ρ (.tmp 5)=.string (bsOf X):=hρ.tmp 5 rfl;clear hρ hp;unfold OpRun;go_simp;exact hR _ _ (Below.refl _ _) rfl)
    case o9=>(refine oQ rfl ?_;intro ρ w1 R hcon hfn hρ hb hp hR;have e25:ρ (.tmp 25)=_:=hp 8 25 rfl rfl;clear hρ hp;unfold OpRun;go_simp;exact hR _ _ (Below.refl _ _) rfl)
    case o10=>(refine oQ rfl ?_;intro ρ w1 R hcon hfn hρ hb hp hR;have e1:ρ (.tmp 1)=.int .i64 (p:Int):=hρ.tmp 1 rfl;clear hρ hp;unfold OpRun;go_simp;exact hR _ _ (Below.refl _ _) rfl)
    case o11=>(refine oQ rfl ?_;intro ρ w1 R hcon hfn hρ hb hp hR;have e26:ρ (.tmp 26)=_:=hp 9 26 rfl rfl;have e27:ρ (.tmp 27)=_:=hp 10 27 rfl rfl;clear hρ hp;unfold OpRun;go_simp;exact hR _ _ (Below.refl _ _) rfl)
    case o12=>(refine oQ rfl ?_;intro ρ w1 R hcon hfn hρ hb hp hR;have e24:ρ (.tmp 24)=_:=hp 7 24 rfl rfl;have e28:ρ (.tmp 28)=_:=hp 11 28 rfl rfl;clear hρ hp;unfold OpRun;go_simp;exact hR _ _ (Below.refl _ _) rfl)
    case o13=>(refine oQ rfl ?_;intro ρ w1 R hcon hfn hρ hb hp hR;have e23:ρ (.tmp 23)=_:=hp 6 23 rfl rfl;have e29:ρ (.tmp 29)=_:=hp 12 29 rfl rfl;clear hρ hp;unfold OpRun;go_simp;exact hR _ _ (Below.refl _ _) rfl)
    case o14=>(refine oQ rfl ?_;intro ρ w1 R hcon hfn hρ hb hp hR;have e30:ρ (.tmp 30)=_:=hp 13 30 rfl rfl;clear hρ hp;unfold OpRun;go_simp;exact hR _ _ (Below.refl _ _) rfl)
    case after=>
     intro u wn hb hf
     have e4:u 4=_:=hf 14 4 (by omega) rfl
     clear hf
     simp only [putAll,Act.put,List.setIfInBounds_toArray,List.set_cons_zero,List.set_cons_succ,List.drop_succ_cons,List.drop_zero,List.drop_nil]
     rw [e4]
     go_wp2_with fail
     go_ret
     exact ⟨by rw [HRR.out];rfl,below_trans y1 hb⟩
theorem minusN_any (x:Int) (h0:0≤x) (h1:x<18446744073709551616) (w:World):
 Calls Tryz.prog 51 #[.int .u64 x] w fun e w'=>e=.returned (.bool (negB x))∧w=w':=by
 go_enter Tryz.func51,Tryz.ntmps51
 go_wp2_with fail
 go_ret
 exact ⟨ret_bool rfl,rfl⟩
theorem dashed_any (D:List UInt8) (x:Int) (h0:0≤x) (h1:x<18446744073709551616) (hD:D.length≤1000000000) (w:World):
 Calls Tryz.prog 198 #[.string (bsOf D),.int .u64 x] w fun e w'=>e=.returned (.string (bsOf (dsh (negB x) D)))∧w=w':=by
 have MI:=hid (fun w=>minusN_any x h0 h1 w)
 have hA:=add_dash (P:=Tryz.prog) D (by omega)
 generalize negB x=b at *
 go_enter Tryz.func198,Tryz.ntmps198
 cases b
 ·clear hA
  go_wp2_with (go_at_call 51;(with_reducible refine (MI.out _).mono ?_);rintro en w1 ⟨rfl,rfl⟩)
  go_ret
  exact ⟨rfl,rfl⟩
 ·go_wp2_with (go_at_call 51;(with_reducible refine (MI.out _).mono ?_);rintro en w1 ⟨rfl,rfl⟩)
  go_ret
  exact ⟨rfl,rfl⟩
theorem hasV_any (x:Int) (h0:0≤x) (h1:x<18446744073709551616) (w:World):
 Calls Tryz.prog 76 #[.int .u64 x] w fun e w'=>e=.returned (.bool (hasVal x))∧w=w':=by
 have CL:=hid (fun w=>classOf_any x h0 h1 w)
 have HC:=hid (show decide (classOf x<4)=hasVal x by
  have a:=class_val x h0 h1
  unfold hasVal
  unfold absOf at a
  rw [decide_eq_decide];omega)
 generalize classOf x=c at *
 go_enter Tryz.func76,Tryz.ntmps76
 go_wp2_with (go_at_call 104;(with_reducible refine (CL.out _).mono ?_);rintro en w1 ⟨rfl,rfl⟩)
 go_ret
 exact ⟨ret_bool HC.out,rfl⟩
end Go.Proofs.YtfphmlmgjhebjaaGreatDoor
namespace Go.Proofs
open Go.Shelf
def Tryz.lays103_ren:Go.Shelf.Ren:=⟨fun|103=>64|210=>122|206=>133|n=>n,fun|9=>9|4=>4|24=>94|3=>3|n=>n,fun|n=>n⟩
theorem Tryz.lays103:Go.Proofs.Lays.n103 Tryz.prog Tryz.lays103_ren:= {
 mixed:=by kernel_rfl
 f103:=Tryz.func64.trans (congrArg some (by kernel_rfl))
 f206:=Tryz.func133.trans (congrArg some (by kernel_rfl))
 f210:=Tryz.func122.trans (congrArg some (by kernel_rfl))
 t3:=Tryz.underlying3
 a3:=Tryz.isAgg3
 z3:=Tryz.sizeOf3
 v3:=Tryz.zeroValue3
 t4:=Tryz.underlying4
 a4:=Tryz.isAgg4
 z4:=Tryz.sizeOf4
 v4:=Tryz.zeroValue4
 t9:=Tryz.underlying9
 a9:=Tryz.isAgg9
 z9:=Tryz.sizeOf9
 v9:=Tryz.zeroValue9
 t24:=Tryz.underlying94
 a24:=Tryz.isAgg94
 z24:=Tryz.sizeOf94
 v24:=Tryz.zeroValue94}
open Go.RowKit in
theorem Tryz.strings_CutPrefix (s p:ByteArray) (w:World):
 Calls Tryz.prog 64 #[.string s,.string p] w fun e w'=>e=.returned (.tuple #[.string ⟨(Lib.trimPrefix s.data.toList p.data.toList).toArray⟩,.bool (Lib.hasPrefix s.data.toList p.data.toList)])∧w'=w:=Any.strings_CutPrefix Tryz.lays103 s p w
end Go.Proofs
