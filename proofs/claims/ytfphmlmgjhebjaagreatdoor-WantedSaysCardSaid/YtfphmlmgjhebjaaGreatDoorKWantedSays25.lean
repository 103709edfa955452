/- WantedSays: what the proof leans on, part 25 (Hx3 Hx4). -/
import Derived.Test.YtfphmlmgjhebjaaGreatDoorKWantedSays16
import Derived.Test.YtfphmlmgjhebjaaGreatDoorKWantedSays24
set_option linter.unusedVariables false
set_option linter.unusedSimpArgs false
namespace Go.Ulp
open Go.RowKit
theorem dval_drop_le (L:List Nat) (k:Nat) (h:k≤L.length):dval (L.drop k)≤dval L:=by
 have h1:=val_take_drop 10000 L k h
 have h2:0<10000^k:=Nat.pow_pos (by omega)
 have h3:dval L=val 10000 (L.take k)+10000^k*val 10000 (L.drop k):=h1
 have h4:=Nat.le_mul_of_pos_left (val 10000 (L.drop k)) h2
 show val 10000 (L.drop k)≤_
 omega
theorem QW.zv {tq ti:TypeId} {w:World} {g:Nat} {D:Dy} {A T:Nat} {X:Int} {n:Nat} {ao:Option Addr} {cap:Nat} (h:QW tq ti w g D A T X n ao cap) (hN:Nz ti w ao cap (zl X)):ZV tq ti w g X:=⟨ao,cap,h.1.1,hN⟩
end Go.Ulp
namespace Go.Proofs.YtfphmlmgjhebjaaGreatDoor
open Go.RowKit Go.Ulp
set_option maxHeartbeats 2000000
set_option maxRecDepth 100000
theorem zInt_any (x:Int) (a0:Option Addr) (c0:Nat) (w:World) (h0:Nz 3 w a0 c0 (zl x)) (hx: -4611686018427387904≤x∧x≤4611686018427387904):
 Calls Tryz.prog 141 #[.agg #[.bool (zneg x),.slice a0 (zl x).length c0]] w fun e w'=>e=.returned (.int .i64 x)∧Below w.heap.size w w':=by
 have HL:=hid (zl_dec x)
 have hcap:=h0.1.1
 have hcap2:=h0.1.2.1
 unfold maxLen at hcap2
 have H3:=hid h0.1.2.2
 have HV:=hid (dval_zl x)
 have hng:zneg x=decide (x<0):=rfl
 obtain ⟨L,hL⟩: ∃L,L=zl x:=⟨_,rfl⟩
 rw [←hL] at HL H3 HV hcap ⊢
 obtain ⟨N,hN⟩: ∃N,N=L.length:=⟨_,rfl⟩
 have DS:=hid (show ∀i,i<N→dval (L.drop i)=L.getD i 0+10000*dval (L.drop (i+1)) from fun i hi=>dval_drop L i (by omega))
 have DL:=hid (show ∀i,i≤N→dval (L.drop i)≤4611686018427387904 from fun i hi=>by have:=dval_drop_le L i (by omega);have:=HV.out;omega)
 have DE:=hid (show dval (L.drop N)=0 from by rw [List.drop_of_length_le (by omega)];rfl)
 have D0:=hid (show dval (L.drop 0)=x.natAbs from by rw [List.drop_zero];exact HV.out)
 rw [←hN] at H3 hcap ⊢
 have zA:ZL 31 (w.alloc (.cells #[.bool (zneg x),.slice a0 N c0] 31)) w.heap.size (zneg x) (.slice a0 N c0):=ZL.made rfl
 have yb:=below_alloc w (.cells #[.bool (zneg x),.slice a0 N c0] 31)
 obtain ⟨W0,hW0⟩: ∃W,W=w.alloc (.cells #[.bool (zneg x),.slice a0 N c0] 31):=⟨_,rfl⟩
 rw [←hW0] at zA yb
 have HC:=hid (show ∀i,i<N→ ∃b off,a0=some ⟨b,off,none⟩∧W0.cell? ⟨b,off+i,none⟩=some (.int .i64 ((L.getD i 0:Nat):Int)) from fun i hi=>by
  obtain ⟨b,off,e,hc⟩:=H3.out (by omega)
  exact ⟨b,off,e,(yb.cell (p:=⟨b,off+i,none⟩) (World.block_lt_of_cell? _ _ (hc i hi))).trans (hc i hi)⟩)
 obtain ⟨B,hB⟩: ∃b,b=zneg x:=⟨_,rfl⟩
 rw [←hB] at zA hW0 ⊢
 rw [hng] at hB
 have HB:=hid hB
 clear h0 hL hN hng hB H3 HL HV
 go_enter Tryz.func141,Tryz.ntmps141
 go_upto_region 1 with fail
 rw [←hW0]
 clear hW0
 obtain ⟨j0,j1,-,-,-⟩:=id zA
 go_wp2_with fail
 go_loopw [3,4] (fun s3 s4 wr=> ∃k:Int,-1≤k∧k<N∧s4=.int .i64 k∧s3=.int .i64 (dval (L.drop (k+1).toNat):Int)∧wr=W0) (fun _ s4 _=>(intOf s4+1).toNat)
 case atStart=>exact ⟨(N:Int)-1,by omega,by omega,rfl,by rw [show ((N:Int)-1+1).toNat=N by omega,DE.out];rfl,rfl⟩
 case round=>
  obtain ⟨k,hk1,hk2,rfl,rfl,rfl⟩:=hrel
  by_cases hk:k<0
  ·have hcc: ¬0≤k:=by omega
   have hT:dval (L.drop (k+1).toNat)=x.natAbs:=by rw [show (k+1).toNat=0 by omega];exact D0.out
   rw [hT]
   clear hT DS DL DE D0 HC hk1 hk2 hk
   obtain ⟨n,hn⟩: ∃n,n=x.natAbs:=⟨_,rfl⟩
   rw [←hn]
   have hn8:n≤4611686018427387904:=by omega
   have hw1:IntKind.i64.wrap (-(n:Int))= -(n:Int):=IntWalk.i64_in _ (by omega)
   have HF:=hid (show x=if B=true then -(n:Int) else (n:Int) by
    rw [HB.out,hn];by_cases h:x<0
    ·rw [decide_eq_true h,if_pos rfl];omega
    ·rw [decide_eq_false h,if_neg (by simp)];omega)
   clear hn HB hx
   cases B
   ·have HF2:=hid (show x=(n:Int) from HF.out)
    clear HF
    go_wp2_with fail
    go_ret
    exact ⟨by rw [HF2.out];rfl,yb⟩
   ·have HF2:=hid (show x= -(n:Int) from HF.out)
    clear HF
    go_wp2_with fail
    go_ret
    exact ⟨by rw [HF2.out];rfl,yb⟩
  ·obtain ⟨i,rfl⟩:=Int.eq_ofNat_of_zero_le (show 0≤k by omega)
   obtain ⟨b,off,rfl,hcell⟩:=HC.out i (by omega)
   have hst:=DS.out i (by omega)
   have hle:=DL.out i (by omega)
   rw [show ((i:Int)+1).toNat=i+1 by omega]
   obtain ⟨d,hd⟩: ∃d,d=L.getD i 0:=⟨_,rfl⟩
   obtain ⟨m,hm⟩: ∃m,m=dval (L.drop (i+1)):=⟨_,rfl⟩
   rw [←hd] at hcell hst
   rw [←hm] at hst ⊢
   have HST:=hid hst
   have hb8:d+10000*m≤4611686018427387904:=by omega
   have hw1:IntKind.i64.wrap (10000*(m:Int))=10000*(m:Int):=IntWalk.i64_in _ (by omega)
   have hw2:IntKind.i64.wrap (10000*(m:Int)+(d:Int))=10000*(m:Int)+(d:Int):=IntWalk.i64_in _ (by omega)
   have hw3:IntKind.i64.wrap ((i:Int)-1)=(i:Int)-1:=IntWalk.i64_in _ (by omega)
   clear hd hm hst hle DS DL DE D0 HC
   go_wp2_with fail
   go_roundw
   case rel=>exact ⟨(i:Int)-1,by omega,by omega,rfl,by rw [show ((i:Int)-1+1).toNat=i by omega,HST.out];congr 1;omega,by first|rfl|trivial⟩
   case measure=>first|(simp [intOf];done)|(simp [intOf];omega)
theorem zIntD (v:Value) (x:Int) (w:World) (hv:ZD 3 w x v) (hx: -4611686018427387904≤x∧x≤4611686018427387904):Calls Tryz.prog 141 #[v] w fun e w'=>e=.returned (.int .i64 x)∧Below w.heap.size w w':=by
 obtain ⟨a,c,rfl,h⟩:=hv
 exact zInt_any x a c w h hx
theorem twoExp_any (p:Int) (hp: -30000≤p∧p≤30000) (w:World):
 Calls Tryz.prog 207 #[.int .i64 p] w fun e w'=>e=.returned (.string (bsOf (hxP p)))∧w=w':=by
 by_cases h:p<0
 ·have hw1:IntKind.i64.wrap (-p)= -p:=IntWalk.i64_in _ (by omega)
  obtain ⟨n,hn⟩: ∃n:Nat,-p=(n:Int):=⟨p.natAbs,by omega⟩
  have hpn:p= -(n:Int):=by omega
  subst hpn
  have DG:=hid (fun w=>digits_any 5 n (by omega) (by omega) w)
  have hl:=decD_len 5 n (by omega)
  have HR:=hid (show hxP (-(n:Int))=112::45::decD n by unfold hxP;rw [if_pos h];congr 3;omega)
  have hA:=add_bs (P:=Tryz.prog) [112,45] (decD n) (by simp;omega)
  have hb:(ByteArray.mk #[112,45])=bsOf [112,45]:=rfl
  generalize decD n=D at *
  have hnn: - -(n:Int)=(n:Int):=by omega
  go_enter Tryz.func207,Tryz.ntmps207
  go_wp2_with (go_at_call 203;(with_reducible refine (DG.out _).mono ?_);rintro en w1 ⟨rfl,rfl⟩)
  go_ret
  exact ⟨by rw [HR.out];rfl,rfl⟩
 ·obtain ⟨n,rfl⟩:=Int.eq_ofNat_of_zero_le (show 0≤p by omega)
  have DG:=hid (fun w=>digits_any 5 n (by omega) (by omega) w)
  have hl:=decD_len 5 n (by omega)
  have HR:=hid (show hxP (n:Int)=112::43::decD n by unfold hxP;rw [if_neg h];congr 3)
  have hA:=add_bs (P:=Tryz.prog) [112,43] (decD n) (by simp;omega)
  have hb:(ByteArray.mk #[112,43])=bsOf [112,43]:=rfl
  generalize decD n=D at *
  go_enter Tryz.func207,Tryz.ntmps207
  go_wp2_with (go_at_call 203;(with_reducible refine (DG.out _).mono ?_);rintro en w1 ⟨rfl,rfl⟩)
  go_ret
  exact ⟨by rw [HR.out];rfl,rfl⟩
theorem hx_cut (d:Nat) (hd:d<16) (w:World):(Instr.slice 9 (.string (ByteArray.mk #[48,49,50,51,52,53,54,55,56,57,97,98,99,100,101,102])) (some (.int .i64 (d:Int))) (some (.int .i64 ((d:Int)+1))) none).run Tryz.prog w=.ok (.string (bsOf [hxc d])) w:=by
 have e1:(d:Int).toNat=d:=by omega
 have e2:((d:Int)+1).toNat=d+1:=by omega
 rw [run_slice_string w 9 _ _ _ _ _ Tryz.underlying9 (by omega) (by omega) (by show _≤((16:Nat):Int);omega),e1,e2,hx_str d hd]
 rfl
theorem sixteens_any (m n:Nat) (v:Value) (w:World) (hv:ZD 3 w (m:Int) v) (hl:(zl (m:Int)).length≤900000) (hn:n≤1000):
 Calls Tryz.prog 139 #[v,.int .i64 (n:Int)] w fun e w'=>e=.returned (.string (bsOf (hxD n m)))∧Below w.heap.size w w':=by
 obtain ⟨a0,c0,rfl,hN⟩:=hv
 have HL:=hid (fun i=>Nat.le_trans (zl_len_le (x:=((m/16^i:Nat):Int)) (y:=(m:Int)) (by rw [Int.natAbs_natCast,Int.natAbs_natCast];exact Nat.div_le_self _ _)) hl)
 have zA0:=zv_made (tz:=31) hN w.heap.size rfl
 have yb0:=below_alloc w (.cells #[.bool (zneg (m:Int)),.slice a0 (zl (m:Int)).length c0] 31)
 go_enter Tryz.func139,Tryz.ntmps139
 go_upto_region 1 with fail
 refine wp_worldZ (fun WW=>Below w.heap.size w WW∧ZV 31 3 WW w.heap.size (m:Int)) ⟨yb0,zA0⟩ ?_
 intro W1 ⟨y1,z2⟩
 obtain ⟨g2,hg2⟩: ∃g,g=w.heap.size:=⟨_,rfl⟩
 have b2:w.heap.size≤g2:=by omega
 rw [←hg2] at z2 ⊢
 clear hg2 zA0 yb0 hN
 have Z2:=hid z2
 clear z2
 go_wp2_with fail
 go_loopw [5,6,7,9] (fun s5 s6 s7 s9 wr=> ∃i:Nat,i≤n∧s9=.int .i64 (i:Int)∧s5=.string (bsOf (hxD i m))∧ZV 31 3 wr g2 ((m/16^i:Nat):Int)∧Below w.heap.size w wr) (fun _ _ _ s9 _=>n-(intOf s9).toNat)
 case atStart=>exact ⟨0,by omega,rfl,rfl,by rw [Nat.pow_zero,Nat.div_one];exact Z2.out,y1⟩
 case round=>
  obtain ⟨i,hi,rfl,rfl,z2,yr⟩:=hrel
  clear Z2 y1
  by_cases hin:i<n
  ·have hl9:=HL.out i
   have HQ:=hid (show m/16^(i+1)=m/16^i/16 by rw [Nat.pow_succ,Nat.div_div_eq_div_mul])
   have HD:=hid (show hxD (i+1) m=hxc (m/16^i%16)::hxD i m from rfl)
   have hTl:=hxD_len i m
   obtain ⟨q,hq⟩: ∃q,q=m/16^i:=⟨_,rfl⟩
   obtain ⟨T,hT⟩: ∃T,T=hxD i m:=⟨_,rfl⟩
   rw [←hq] at hl9 HQ HD z2
   rw [←hT] at HD hTl ⊢
   clear hq hT
   have l16:(zl 16).length≤900000:=by decide
   obtain ⟨d,hd⟩: ∃d,d=q%16:=⟨_,rfl⟩
   have hd16:d<16:=by omega
   rw [←hd] at HD
   have HQD:=hid (show (q:Int)%16=(d:Int) by omega)
   obtain ⟨r,hr⟩: ∃r,r=q/16:=⟨_,rfl⟩
   have HQQ:=hid (show (q:Int)/16=(r:Int) by omega)
   rw [←hr] at HQ
   have ZI:=hid (fun v w h=>zIntD v (d:Int) w h (by omega))
   have hCU:=hx_cut d hd16
   have hAD:=add_bs (P:=Tryz.prog) [hxc d] T (by simp;omega)
   clear hd hr
   go_upto_region 4 with fail
   obtain ⟨W4,hW4⟩: ∃W,W=wr:=⟨_,rfl⟩
   subst hW4
   refine wp_region_growL 8 5 [12,13,14,11,15,16,6,7] [Fact.z 3 ((q:Int)),Fact.z 3 (16),Fact.z2 3 ((r:Int)) ((d:Int)),Fact.z2 3 ((r:Int)) ((d:Int)),Fact.z 3 ((r:Int)),Fact.z 3 ((d:Int)),Fact.z0 W4.heap.size 31,Fact.z0 W4.heap.size 31] [6,7] (by kernel_rfl) (by kernel_rfl) rfl ⟨?o0,?o1,?o2,?o3,?o4,?o5,?o6,?o7,trivial⟩ ?late (fun d _ _ _ _ h=>by cases d<;>exact h) ?after
   case o0=>(refine oQF rfl ?_;intro ρ w1 R hcon hfn hρ hb hp hR;have e2:ρ (.tmp 2)=.pointer (some ⟨g2,0,none⟩):=hρ.tmp 2 rfl;obtain ⟨ya9,yc9,yj9,yn9⟩:=ZV.below z2 hb;obtain ⟨j90,j91,-⟩:=yj9;replace hR:=fun v w2 h1 h2=>hR v w2 h1 h2 (fun h=>absurd h (by decide));clear hρ hp;unfold OpRun;go_simp;exact hR _ _ (Below.refl _ _) ⟨ya9,yc9,rfl,yn9⟩)
   case o1=>(refine oQF rfl ?_;intro ρ w1 R hcon hfn hρ hb hp hR;replace hR:=fun v w2 h1 h2=>hR v w2 h1 h2 (fun h=>absurd h (by decide));clear hρ hp;unfold OpRun;go_simp;(refine (zND _ (by omega) (by omega) _).mono ?_;rintro e wn ⟨v9,rfl,hz9,hbn⟩;exact ⟨_,rfl,hR _ _ hbn hz9⟩))
   case o2=>(refine oQF rfl ?_;intro ρ w1 R hcon hfn hρ hb hp hR;have f12:=hp 0 12 rfl rfl;have f13:=hp 1 13 rfl rfl;replace hR:=fun v w2 h1 h2=>hR v w2 h1 h2 (fun h=>absurd h (by decide));clear hρ hp;unfold OpRun;go_simp;(refine (zdivD _ _ _ _ _ f12 f13 (by first|assumption|omega) (by first|assumption|omega) (by first|assumption|omega)).mono ?_;rintro e wn ⟨v9,rfl,hz9,hbn⟩;exact ⟨_,rfl,hR _ _ hbn (by rw [←HQQ.out,←HQD.out];exact hz9)⟩))
   case o3=>(refine oQF rfl ?_;intro ρ w1 R hcon hfn hρ hb hp hR;have f14:=hp 2 14 rfl rfl;replace hR:=fun v w2 h1 h2=>hR v w2 h1 h2 (fun h=>absurd h (by decide));clear hρ hp;unfold OpRun;go_simp;exact hR _ _ (Below.refl _ _) f14)
   case o4=>(refine oQF rfl ?_;intro ρ w1 R hcon hfn hρ hb hp hR;have f11:=hp 3 11 rfl rfl;replace hR:=fun v w2 h1 h2=>hR v w2 h1 h2 (fun h=>absurd h (by decide));clear hρ hp;unfold OpRun;go_simp;(obtain ⟨a97,b97,e97,h97,k97⟩:=ZD2.parts f11;rw [e97];exact hR _ _ (Below.refl _ _) h97))
   case o5=>(refine oQF rfl ?_;intro ρ w1 R hcon hfn hρ hb hp hR;have f11:=hp 3 11 rfl rfl;replace hR:=fun v w2 h1 h2=>hR v w2 h1 h2 (fun h=>absurd h (by decide));clear hρ hp;unfold OpRun;go_simp;(obtain ⟨a97,b97,e97,h97,k97⟩:=ZD2.parts f11;rw [e97];exact hR _ _ (Below.refl _ _) k97))
   case o6=>(refine oQF rfl ?_;intro ρ w1 R hcon hfn hρ hb hp hR;clear hρ hp;unfold OpRun;go_simp;exact hR _ _ (below_alloc _ _) ⟨_,rfl,hb.size,ZL.made rfl⟩ (fun _=>⟨_,rfl,Nat.le_refl _,by simp⟩))
   case o7=>(refine oQF rfl ?_;intro ρ w1 R hcon hfn hρ hb hp hR;clear hρ hp;unfold OpRun;go_simp;exact hR _ _ (below_alloc _ _) ⟨_,rfl,hb.size,ZL.made rfl⟩ (fun _=>⟨_,rfl,Nat.le_refl _,by simp⟩))
   case late=>
    intro o ho
    simp only [List.getElem?_cons_succ,List.getElem?_cons_zero,Option.some.injEq] at ho
    subst ho
    refine ⟨rfl,?_⟩
    intro ρ w1 hρ hb hp
    have f11:=hp 3 11 rfl rfl
    obtain ⟨a97,b97,e97,h97,k97⟩:=ZD2.parts f11
    refine ⟨_,?_,k97⟩
    intro w2
    have hcon:=hρ.con
    go_simp
    try rfl
   case after=>
    intro u wn hb hf hd
    have f15:=hf 4 15 (by omega) rfl
    have f16:=hf 5 16 (by omega) rfl
    have f6:=hf 6 6 (by omega) rfl
    have f7:=hf 7 7 (by omega) rfl
    have d6_7:u 6≠u 7:=hd 6 7 6 7 (by omega) (by omega) (by omega) rfl rfl rfl rfl
    clear hf hd
    simp only [putAll,Act.put,List.setIfInBounds_toArray,List.set_cons_zero,List.set_cons_succ,List.drop_succ_cons,List.drop_zero,List.drop_nil]
    obtain ⟨xa1,xc1,xe1,xn1⟩:=f15
    obtain ⟨xa2,xc2,xe2,xn2⟩:=f16
    obtain ⟨gv6,eg1,hg1,zz1⟩:=f6
    obtain ⟨gv7,eg2,hg2,zz2⟩:=f7
    have gne:gv6≠gv7:=by intro h;apply d6_7;rw [eg1,eg2,h]
    rw [xe1,xe2,eg1,eg2]
    clear xe1 xe2 eg1 eg2 d6_7
    have zst:=zv_store2 (by decide) hb hg1 hg2 gne zz1 zz2 xn1 xn2
    obtain ⟨k0,k1,kf0,kf1,-⟩:=id zz1
    obtain ⟨l0,l1,lf0,lf1,-⟩:=id zz2
    go_upto_region 5 with fail
    clear k0 k1 kf0 kf1 l0 l1 lf0 lf1 zz1 zz2 xn1 xn2 hb
    refine wp_worldZ (fun WW=>Below _ _ WW∧ZV _ _ WW _ _∧ZV _ _ WW _ _) zst ?_
    clear zst
    intro W5 ⟨y5,z6,z7⟩
    have z2a:=z2.below y5
    have ya:=below_trans yr y5
    clear z2 yr y5 hg1 hg2 gne
    obtain ⟨W6,hW6⟩: ∃W,W=W5:=⟨_,rfl⟩
    subst hW6
    have hwd:IntKind.i64.wrap ((d:Int)+1)=(d:Int)+1:=IntWalk.i64_in _ (by omega)
    refine wp_region_grow 8 [17,18,19,20,21,22,23,24] [Fact.z 3 ((d:Int)),Fact.is (.int .i64 (d:Int)),Fact.z 3 ((d:Int)),Fact.is (.int .i64 (d:Int)),Fact.is (.int .i64 ((d:Int)+1)),Fact.is (.string (bsOf [hxc d])),Fact.is (.string (bsOf T)),Fact.is (.string (bsOf (hxc d::T)))] (by kernel_rfl) (by kernel_rfl) ⟨?o0,?o1,?o2,?o3,?o4,?o5,?o6,?o7,trivial⟩ ?after
    case o0=>(refine oQ rfl ?_;intro ρ w1 R hcon hfn hρ hb hp hR;have e7:ρ (.tmp 7)=.pointer (some ⟨gv7,0,none⟩):=hρ.tmp 7 rfl;obtain ⟨ya9,yc9,yj9,yn9⟩:=ZV.below z7 hb;obtain ⟨j90,j91,-⟩:=yj9;clear hρ hp;unfold OpRun;go_simp;exact hR _ _ (Below.refl _ _) ⟨ya9,yc9,rfl,yn9⟩)
    case o1=>(refine oQ rfl ?_;intro ρ w1 R hcon hfn hρ hb hp hR;have f17:=hp 0 17 rfl rfl;clear hρ hp;unfold OpRun;go_simp;(refine (ZI.out _ _ f17).mono ?_;rintro e wn ⟨rfl,hbn⟩;exact ⟨_,rfl,hR _ _ hbn rfl⟩))
    case o2=>(refine oQ rfl ?_;intro ρ w1 R hcon hfn hρ hb hp hR;have e7:ρ (.tmp 7)=.pointer (some ⟨gv7,0,none⟩):=hρ.tmp 7 rfl;obtain ⟨ya9,yc9,yj9,yn9⟩:=ZV.below z7 hb;obtain ⟨j90,j91,-⟩:=yj9;clear hρ hp;unfold OpRun;go_simp;exact hR _ _ (Below.refl _ _) ⟨ya9,yc9,rfl,yn9⟩)
    case o3=>(refine oQ rfl ?_;intro ρ w1 R hcon hfn hρ hb hp hR;have f19:=hp 2 19 rfl rfl;clear hρ hp;unfold OpRun;go_simp;(refine (ZI.out _ _ f19).mono ?_;rintro e wn ⟨rfl,hbn⟩;exact ⟨_,rfl,hR _ _ hbn rfl⟩))
    case o4=>(refine oQ rfl ?_;intro ρ w1 R hcon hfn hρ hb hp hR;have e20:ρ (.tmp 20)=_:=hp 3 20 rfl rfl;clear hρ hp;unfold OpRun;go_simp;exact hR _ _ (Below.refl _ _) rfl)
    case o5=>(refine oQ rfl ?_;intro ρ w1 R hcon hfn hρ hb hp hR;have e18:ρ (.tmp 18)=_:=hp 1 18 rfl rfl;have e21:ρ (.tmp 21)=_:=hp 4 21 rfl rfl;clear hρ hp;unfold OpRun;go_simp;exact hR _ _ (Below.refl _ _) rfl)
    case o6=>(refine oQ rfl ?_;intro ρ w1 R hcon hfn hρ hb hp hR;have e5:ρ (.tmp 5)=.string (bsOf T):=hρ.tmp 5 rfl;clear hρ hp;unfold OpRun;go_simp;exact hR _ _ (Below.refl _ _) rfl)
    case o7=>(refine oQ rfl ?_;intro ρ w1 R hcon hfn hρ hb hp hR;have e22:ρ (.tmp 22)=_:=hp 5 22 rfl rfl;have e23:ρ (.tmp 23)=_:=hp 6 23 rfl rfl;clear hρ hp;unfold OpRun;go_simp;exact hR _ _ (Below.refl _ _) rfl)
    case after=>
     intro u wn hb hf
     have e24:u 24=_:=hf 7 24 (by omega) rfl
     clear hf
     simp only [putAll,Act.put,List.setIfInBounds_toArray,List.set_cons_zero,List.set_cons_succ,List.drop_succ_cons,List.drop_zero,List.drop_nil]
     rw [e24]
     have yb:=below_trans ya hb
     obtain ⟨a6,c6,zl6,n6⟩:=z6.below hb
     obtain ⟨a2,c2,zl2,n2⟩:=z2a.below hb
     have zst:=zv_store1 (by decide) yb b2 zl2 n6
     obtain ⟨j0,j1,-⟩:=zl6
     obtain ⟨k0,k1,kf0,kf1,-⟩:=id zl2
     clear z6 z7 z2a hb ya n2
     go_wp2_with fail
     go_roundw
     case rel=>exact ⟨i+1,by omega,by go_num,by rw [HD.out],by rw [HQ.out];exact zst.2,zst.1⟩
     case measure=>first|(simp [intOf];done)|(simp [intOf];omega)
  ·have hin2:i=n:=by omega
   subst hin2
   go_wp2_with fail
   go_ret
   exact ⟨rfl,yr⟩
theorem topBit_any (v:Value) (D:Dy) (A T:Nat) (w:World) (hv:QD 3 w D A T v) (hA:A≤1000000) (hT:T≤1000000) (hD:D.1≠0) (hk: -3000≤hfK D∧hfK D≤1030):
 Calls Tryz.prog 204 #[v] w fun e w'=>e=.returned (.int .i64 (hfK D))∧Below w.heap.size w w':=by
 have QAb:=hid (fun v w h=>qabs_any v D A T w h (by omega) (by omega))
 have ZN1:=hid (zN_any 1 (by omega))
 have QM:=hid (fun k (h: -3000≤k∧k≤1030) a c w h0=>qmake_any a c 1 k 2 3000 w h0 (by decide) (by omega) (by omega) (by omega))
 have QC:=hid (fun k v u w k0 k1=>qcmp_any v u (nrm 1 k) (absD D) (2+3000) 3000 A T w k0 k1 (by omega) (by omega) (by omega) (by omega))
 have CT:=hid (fun k=>cmp_top2 D k hD)
 obtain ⟨K,hK⟩: ∃K,K=hfK D:=⟨_,rfl⟩
 rw [←hK] at hk CT ⊢
 obtain ⟨X,n,ao,cap,rfl,hN,hDX⟩:=hv
 have hQ:QD 3 w D A T (.agg #[.bool (zneg X),.slice ao (zl X).length cap,.int .i64 (n:Int)]):=⟨X,n,ao,cap,rfl,hN,hDX⟩
 have q0:=QW.made (tq:=33) hQ
 have yb0:=below_alloc w (.cells #[.bool (zneg X),.slice ao (zl X).length cap,.int .i64 (n:Int)] 33)
 clear hN hDX hK hQ hD
 go_enter Tryz.func204,Tryz.ntmps204
 go_upto_region 1 with fail
 refine wp_worldZ (fun WW=>Below w.heap.size w WW∧QW 33 3 WW w.heap.size D A T X n ao cap) ⟨yb0,q0⟩ ?_
 intro W1 ⟨y1,q1⟩
 obtain ⟨g1,hg1⟩: ∃g,g=w.heap.size:=⟨_,rfl⟩
 rw [←hg1] at q1 ⊢
 clear hg1 q0 yb0
 have Q1:=hid q1
 clear q1
 go_wp2_with fail
 go_loopw [3] (fun s3 wr=> ∃k:Int,K≤k∧k≤1030∧s3=.int .i64 k∧QW 33 3 wr g1 D A T X n ao cap∧Below w.heap.size w wr) (fun s3 _=>(intOf s3+5000).toNat)
 case atStart=>exact ⟨1030,by omega,by omega,rfl,Q1.out,y1⟩
 case round=>
  obtain ⟨k,hk1,hk2,rfl,q1,yr⟩:=hrel
  clear Q1 y1
  have QM1:=hid (fun a c w h0=>QM.out k (by omega) a c w h0)
  have QC1:=hid (QC.out k)
  have CT1:=hid (CT.out k)
  clear QM QC CT
  obtain ⟨c,hc⟩: ∃c,c=cmpD (nrm 1 k) (absD D):=⟨_,rfl⟩
  rw [←hc] at QC1 CT1
  obtain ⟨E,hE⟩: ∃E,E=nrm 1 k:=⟨_,rfl⟩
  rw [←hE] at QM1 QC1
  obtain ⟨b,hb0⟩: ∃b,b=decide (0<c):=⟨_,rfl⟩
  have HB1:=hid (show b=decide (K<k) by rw [hb0,decide_eq_decide];exact CT1.out)
  clear hc hE CT1
  obtain ⟨W4,hW4⟩: ∃W,W=wr:=⟨_,rfl⟩
  subst hW4
  have HB0:=hid hb0.symm
  clear hb0
  go_upto_region 2 with fail
  refine wp_region_grow 7 [4,5,6,7,8,9,10] [Fact.z 3 1,Fact.is (.int .i64 k),Fact.q 3 E (2+3000) 3000,Fact.is (.agg #[.bool (zneg X),.slice ao (zl X).length cap,.int .i64 (n:Int)]),Fact.q 3 (absD D) A T,Fact.is (.int .i64 c),Fact.is (.bool b)] (by kernel_rfl) (by kernel_rfl) ⟨?o0,?o1,?o2,?o3,?o4,?o5,?o6,trivial⟩ ?after
  case o0=>(refine oQ rfl ?_;intro ρ w1 R hcon hfn hρ hb hp hR;clear hρ hp;unfold OpRun;go_simp;(refine (ZN1.out _).mono ?_;rintro e wn ⟨az,cz,rfl,hz9,hbn⟩;exact ⟨_,rfl,hR _ _ hbn ⟨az,cz,rfl,hz9⟩⟩))
  case o1=>(refine oQ rfl ?_;intro ρ w1 R hcon hfn hρ hb hp hR;have e3:ρ (.tmp 3)=.int .i64 k:=hρ.tmp 3 rfl;clear hρ hp;unfold OpRun;go_simp;exact hR _ _ (Below.refl _ _) rfl)
  case o2=>(refine oQ rfl ?_;intro ρ w1 R hcon hfn hρ hb hp hR;have f4:=hp 0 4 rfl rfl;have e5:ρ (.tmp 5)=_:=hp 1 5 rfl rfl;obtain ⟨a4,c4,e4,hz4⟩:=f4;clear hρ hp;unfold OpRun;go_simp;(skip;refine (QM1.out _ _ _ hz4).mono ?_;rintro e wn ⟨v9,rfl,hv9,hbn⟩;exact ⟨_,rfl,hR _ _ hbn hv9⟩))
  case o3=>(refine oQ rfl ?_;intro ρ w1 R hcon hfn hρ hb hp hR;have e1:ρ (.tmp 1)=.pointer (some ⟨g1,0,none⟩):=hρ.tmp 1 rfl;obtain ⟨j0,j1,j2⟩:=(q1.below hb).cells;clear hρ hp;unfold OpRun;go_simp;exact hR _ _ (Below.refl _ _) rfl)
  case o4=>(refine oQ rfl ?_;intro ρ w1 R hcon hfn hρ hb hp hR;have e7:ρ (.tmp 7)=_:=hp 3 7 rfl rfl;clear hρ hp;unfold OpRun;go_simp;(refine (QAb.out _ _ (q1.below hb).2).mono ?_;rintro e wn ⟨v9,rfl,hv9,hbn⟩;exact ⟨_,rfl,hR _ _ hbn hv9⟩))
  case o5=>(refine oQ rfl ?_;intro ρ w1 R hcon hfn hρ hb hp hR;have f6:=hp 2 6 rfl rfl;have f8:=hp 4 8 rfl rfl;clear hρ hp;unfold OpRun;go_simp;(refine (QC1.out _ _ _ f6 f8).mono ?_;rintro e wn ⟨rfl,hbn⟩;exact ⟨_,rfl,hR _ _ hbn rfl⟩))
  case o6=>(refine oQ rfl ?_;intro ρ w1 R hcon hfn hρ hb hp hR;have e9:ρ (.tmp 9)=_:=hp 5 9 rfl rfl;have hx9:=HB0.out;clear hρ hp;unfold OpRun;go_simp;exact hR _ _ (Below.refl _ _) rfl)
  case after=>
   intro u wn hb hf
   have e10:u 10=_:=hf 6 10 (by omega) rfl
   clear hf
   simp only [putAll,Act.put,List.setIfInBounds_toArray,List.set_cons_zero,List.set_cons_succ,List.drop_succ_cons,List.drop_zero,List.drop_nil]
   rw [e10]
   have q2:=q1.below hb
   have y2:=below_trans yr hb
   have hb1:=HB1.out
   clear q1 yr hb
   by_cases hlt:K<k
   ·rw [decide_eq_true hlt] at hb1
    subst hb1
    have hw1:IntKind.i64.wrap (k-1)=k-1:=IntWalk.i64_in _ (by omega)
    go_wp2_with fail
    go_roundw
    case rel=>exact ⟨k-1,by omega,by omega,rfl,q2,y2⟩
    case measure=>first|(simp [intOf];done)|(simp [intOf];omega)
   ·rw [decide_eq_false hlt] at hb1
    subst hb1
    have hkk:k=K:=by omega
    subst hkk
    go_wp2_with fail
    go_ret
    exact ⟨rfl,y2⟩
end Go.Proofs.YtfphmlmgjhebjaaGreatDoor
namespace Go.Ulp
open Go.RowKit
theorem fv_isNh (x:Int):IsN (fv x):=nrm_isN _ _
theorem fv_small_h (x:Int) (h0:0≤x) (h1:x<18446744073709551616):(limbs (fv x).1.natAbs).length≤2∧ -1074≤(fv x).2∧(fv x).2≤1024:=by
 obtain ⟨-,h2,h3,h4⟩:=fv_bd x h0 h1
 exact ⟨limbs_short1 53 2 (by omega) _ h2,h3,h4⟩
theorem hfK_fv (x:Int) (h0:0≤x) (h1:x<18446744073709551616) (hv:hasVal x=true) (hz:(fv x).1≠0): -1074≤hfK (fv x)∧hfK (fv x)≤1023:=by
 unfold fv at hz ⊢
 have hm:sg (negB x) (mantOf x)≠0:=fun h=>hz ((nrm_zero_iff _ _).2 h)
 rw [hfK_nrm _ _ hm,sg_abs]
 have hv:=of_decide_eq_true hv
 have hm2:(mantOf x).natAbs≠0:=by
  intro h;apply hm;unfold sg;split<;>omega
 have hb:=(bl_pos (mantOf x).natAbs).2 (by omega)
 have hb2:bl (mantOf x).natAbs≤53:=by
  rw [bl_le]
  have:0≤fracOf x∧fracOf x<4503599627370496:=by unfold fracOf;omega
  have e:(2:Nat)^53=9007199254740992:=by decide
  rw [e]
  unfold mantOf
  split<;>omega
 have hd: -1074≤dexp x∧dexp x≤971:=by unfold dexp expOf;omega
 omega
end Go.Ulp
namespace Go.Proofs.YtfphmlmgjhebjaaGreatDoor
open Go.RowKit Go.Ulp
set_option maxHeartbeats 2000000
set_option maxRecDepth 100000
theorem hexFixed_any (x mode:Int) (n:Nat) (h0:0≤x) (h1:x<18446744073709551616) (hv:hasVal x=true) (hz:(fv x).1≠0) (m0:0≤mode) (m1:mode≤4) (hn:n≤1000) (w:World):
 Calls Tryz.prog 140 #[.int .u64 x,.int .i64 (n:Int),.int .i64 mode] w fun e w'=>e=.returned (.tuple #[.string (bsOf (hfT x n mode)),.bool (hfC x n)])∧Below w.heap.size w w':=by
 obtain ⟨d1,d2,d3⟩:=fv_small_h x h0 h1
 obtain ⟨-,d4,-⟩:=fv_bd x h0 h1
 obtain ⟨k1,k2⟩:=hfK_fv x h0 h1 hv hz
 have hI:=fv_isNh x
 have hC:hfC x n=mplC (fv x) (hfK (fv x)-4*(n:Int)):=rfl
 have hT:hfT x n mode=hxT (negB x) n (hfM (hfD (fv x) n mode) n) (hfK (hfD (fv x) n mode)):=rfl
 have QV0:=hid (fun w=>qval_any x h0 h1 w)
 have DA:=hid (show ∀L:List UInt8,L.length≤1000000→ ∀w,Calls Tryz.prog 198 #[.string (bsOf L),.int .u64 x] w fun e w'=>e=.returned (.string (bsOf (dsh (negB x) L)))∧w=w' from fun L hL w=>dashed_any L x h0 h1 (by omega) w)
 generalize fv x=D at *
 obtain ⟨e1,e2,e3,e4,e5⟩:=hf_main D n mode hI hz
 have TB:=hid (fun v w h=>topBit_any v D 1200 1100 w h (by omega) (by omega) hz (by omega))
 obtain ⟨K,hK⟩: ∃K,K=hfK D:=⟨_,rfl⟩
 have hHD:hfD D n mode=mplD D (hfK D-4*(n:Int)) mode:=rfl
 rw [←hK] at hHD TB hC e3 k1 k2
 have CTO:=hid (show ∀v w,QD 3 w D 1200 1100 v→Calls Tryz.prog 205 #[v,.int .i64 (K-4*(n:Int)),.int .i64 mode] w (RetCt 3 w (hfD D n mode) 900000 200000 (hfC x n)) from fun v w h=>by
  rw [hHD,hC]
  exact cutTo_any v D 1200 1100 (K-4*(n:Int)) mode w h (by omega) (by omega) (by omega) (by omega) m0 m1)
 obtain ⟨C,hCC⟩: ∃C,C=hfC x n:=⟨_,rfl⟩
 rw [←hCC] at CTO ⊢
 obtain ⟨E,hE⟩: ∃E,E=hfD D n mode:=⟨_,rfl⟩
 rw [←hE] at e1 e2 e3 e4 e5 CTO hT
 clear hHD hC hE hCC
 have CT:=cmp_top E (K+1) e1
 have HR:=hid (fun X S h=>hf_rest E n X S e2 e1 e4 h)
 obtain ⟨P,hP⟩: ∃P,P=hfK E:=⟨_,rfl⟩
 obtain ⟨M,hM⟩: ∃M,M=hfM E n:=⟨_,rfl⟩
 rw [←hP] at e3 e4 CT hT
 rw [←hP,←hM] at HR
 rw [←hM] at hT
 have hE2:E.2≤1100:=by
  have:=(bl_pos E.1.natAbs).2 (by omega)
  have:hfK E=(bl E.1.natAbs:Int)+E.2-1:=rfl
  omega
 have hE1:E.1.natAbs<2^54:=by
  have:(2:Nat)^54=2*2^53:=by decide
  omega
 have TI:=hid (fun v w (h:QD 3 w E 900000 200000 v)=>QD.tight h 54 1100 hE1 (by omega))
 obtain ⟨c,hc⟩: ∃c,c=cmpD (absD E) (nrm 1 (K+1)):=⟨_,rfl⟩
 have hcP:0≤c↔K+1≤P:=by rw [hc];exact CT
 clear CT
 have ZN1:=hid (show ∀w,Calls Tryz.prog 108 #[.int .i64 1] w fun e w'=>RetZ 3 w 1 e w' from fun w=>zN_any 1 (by omega) w)
 have QM1:=hid (fun a c w h0=>qmake_any a c 1 (K+1) 2 3000 w h0 (by decide) (by omega) (by omega) (by omega))
 have QM2:=hid (fun a c w h0=>qmake_any a c 1 P 2 3000 w h0 (by decide) (by omega) (by omega) (by omega))
 obtain ⟨A,hA⟩: ∃A,A=54+(200000+1100):=⟨_,rfl⟩
 rw [←hA] at TI
 have QAb:=hid (fun v w h=>qabs_any v E A 200000 w h (by omega) (by omega))
 have QC:=hid (show ∀v u w,QD 3 w (absD E) A 200000 v→QD 3 w (nrm 1 (K+1)) (2+3000) 3000 u→Calls Tryz.prog 62 #[v,u] w fun e w'=>e=.returned (.int .i64 c)∧Below w.heap.size w w' from fun v u w k0 k1=>by
  rw [hc];exact qcmp_any v u (absD E) (nrm 1 (K+1)) A 200000 (2+3000) 3000 w k0 k1 (by omega) (by omega) (by omega) (by omega))
 have QN:=hid (fun v w h=>qneg_any v (nrm 1 P) (2+3000) 3000 w h (by omega) (by omega))
 obtain ⟨A2,hA2⟩: ∃A2,A2=max A (2+3000)+max 200000 3000+1:=⟨_,rfl⟩
 obtain ⟨T2,hT2⟩: ∃T2,T2=max 200000 3000:=⟨_,rfl⟩
 have QA:=hid (show ∀v u w,QD 3 w (absD E) A 200000 v→QD 3 w (negD (nrm 1 P)) (2+3000) 3000 u→Calls Tryz.prog 60 #[v,u] w fun e w'=>RetQD 3 w (addD (absD E) (negD (nrm 1 P))) A2 T2 e w' from fun v u w k0 k1=>by
  rw [hA2,hT2];exact qadd_any v u _ _ A 200000 (2+3000) 3000 w k0 k1 (by omega) (by omega) (by omega) (by omega))
 have QS:=hid (fun v w h=>qshift_any v (addD (absD E) (negD (nrm 1 P))) A2 T2 (4*(n:Int)-P) w h (by omega) (by omega) (by omega) (by omega))
 obtain ⟨R,hR⟩: ∃R,R=addD (absD E) (negD (nrm 1 P)):=⟨_,rfl⟩
 rw [←hR] at QA QS HR
 obtain ⟨NG,hNG⟩: ∃Q9,Q9=negD (nrm 1 P):=⟨_,rfl⟩
 rw [←hNG] at QA QN
 obtain ⟨AE,hAE⟩: ∃Q9,Q9=absD E:=⟨_,rfl⟩
 rw [←hAE] at QA QC QAb
 obtain ⟨ON,hON⟩: ∃Q9,Q9=nrm 1 P:=⟨_,rfl⟩
 rw [←hON] at QM2 QN
 obtain ⟨OK,hOK⟩: ∃Q9,Q9=nrm 1 (K+1):=⟨_,rfl⟩
 rw [←hOK] at QM1 QC
 obtain ⟨SH,hSH⟩: ∃Q9,Q9=shD R (4*(n:Int)-P):=⟨_,rfl⟩
 rw [←hSH] at QS HR
 clear hR hNG hAE hON hOK hSH hc hP hM hK hE1 hI e1 e2 e4 e5 d1 d2 d3 d4 hv hz hE2
 obtain ⟨B9,hB9⟩: ∃B,B=4096:=⟨_,rfl⟩
 have SX:=hid (fun m (hm:m<2^B9) v w h=>sixteens_any m n v w h (Nat.le_trans (zl_len_bits _ B9 (by rw [Int.natAbs_natCast];exact hm)) (by omega)) hn)
 have TE:=hid (fun w=>twoExp_any P (by omega) w)
 obtain ⟨T,hTT⟩: ∃T,T=hfT x n mode:=⟨_,rfl⟩
 rw [←hTT] at hT ⊢
 have HT:=hid hT
 generalize negB x=ng at *
 clear hT hTT
 have hw1:IntKind.i64.wrap (4*(n:Int))=4*(n:Int):=IntWalk.i64_in _ (by omega)
 have hw2:IntKind.i64.wrap (K-4*(n:Int))=K-4*(n:Int):=IntWalk.i64_in _ (by omega)
 have hw3:IntKind.i64.wrap (K+1)=K+1:=IntWalk.i64_in _ (by omega)
 have hw4:IntKind.i64.wrap (4*(n:Int)-P)=4*(n:Int)-P:=IntWalk.i64_in _ (by omega)
 go_enter Tryz.func140,Tryz.ntmps140
 go_upto_region 2 with (go_at_call 54;(with_reducible refine (QV0.out _).mono ?_);rintro en w1 ⟨v8,rfl,hq8,hb1⟩;obtain ⟨X8,n8,a8,c8,rfl,hN8,hD8⟩:=id hq8)
 refine wp_worldZ (fun WW=>Below w.heap.size w WW∧QW 33 3 WW w1.heap.size D 1200 1100 X8 n8 a8 c8) ⟨below_trans hb1 (below_alloc _ _),QW.made hq8⟩ ?_
 intro W1 ⟨y1,q8⟩
 obtain ⟨g8,hg8⟩: ∃g,g=w1.heap.size:=⟨_,rfl⟩
 rw [←hg8] at q8 ⊢
 clear hg8 hq8 hN8 hD8 hb1 QV0
 obtain ⟨j0,j1,j2⟩:=q8.cells
 go_upto_region 3 with (go_at_call 204;(with_reducible refine (TB.out _ _ q8.qd).mono ?_);rintro en w2 ⟨rfl,hb2⟩)
 have y2:=below_trans y1 hb2
 replace q8:=q8.below hb2
 clear y1 hb2 j0 j1 j2 TB
 obtain ⟨j0,j1,j2⟩:=q8.cells
 go_upto_region 4 with (go_at_call 205;(with_reducible refine (CTO.out _ _ q8.qd).mono ?_);rintro en w3 ⟨v10,rfl,hq10,hb3⟩;replace hq10:=TI.out _ _ hq10;obtain ⟨X10,n10,a10,c10,rfl,hN10,hD10⟩:=id hq10)
 refine wp_worldZ (fun WW=>Below w.heap.size w WW∧QW 33 3 WW w3.heap.size E A 200000 X10 n10 a10 c10) ⟨below_trans (below_trans y2 hb3) (below_alloc _ _),QW.made hq10⟩ ?_
 intro W3 ⟨y3,q10⟩
 obtain ⟨g10,hg10⟩: ∃g,g=w3.heap.size:=⟨_,rfl⟩
 rw [←hg10] at q10 ⊢
 clear hg10 hq10 hN10 hD10 hb3 y2 CTO TI q8 j0 j1 j2
 obtain ⟨j0,j1,j2⟩:=q10.cells
 obtain ⟨b,hb0⟩: ∃b,decide (0≤c)=b:=⟨_,rfl⟩
 have HPB:=hid (show P=if b=true then K+1 else K by
  rw [←hb0]
  by_cases h:0≤c
  ·rw [decide_eq_true h,if_pos rfl];omega
  ·rw [decide_eq_false h,if_neg (by simp)];omega)
 have hPb: -1074≤P∧P≤1024:=by omega
 clear hcP e3
 go_upto_if 38 with (first
  |(go_at_call 206;(with_reducible refine (QAb.out _ _ q10.qd).mono ?_);rintro en w4 ⟨v4,rfl,hq4,hb4⟩)
  |(go_at_call 108;(with_reducible refine (ZN1.out _).mono ?_);rintro en w5 ⟨az,cz,rfl,hz9,hb5⟩)
  |(go_at_call 109;(with_reducible refine (QM1.out _ _ _ hz9).mono ?_);rintro en w6 ⟨v6,rfl,hq6,hb6⟩)
  |(go_at_call 62;(with_reducible refine (QC.out _ _ _ ((hq4.below hb5).below hb6) hq6).mono ?_);rintro en w7 ⟨rfl,hb7⟩))
 replace y3:=below_trans (below_trans (below_trans (below_trans y3 hb4) hb5) hb6) hb7
 replace q10:=(((q10.below hb4).below hb5).below hb6).below hb7
 clear hb4 hb5 hb6 hb7 hq4 hz9 hq6 j0 j1 j2
 obtain ⟨W7,hW7⟩: ∃W,W=w7:=⟨_,rfl⟩
 subst hW7
 go_cut [9] (fun s9 wx=>s9=.int .i64 P∧wx=W7)
 case first=>as_aux_lemma=>
  cases b
  ·have HPK:=hid (show P=K from HPB.out)
   clear HPB
   go_wp2_with fail
   go_meet
   exact ⟨by rw [HPK.out],rfl⟩
  ·have HPK:=hid (show P=K+1 from HPB.out)
   clear HPB
   go_wp2_with fail
   go_meet
   exact ⟨by rw [HPK.out],rfl⟩
 case rest=>
  obtain ⟨rfl,hwc⟩:=hcut
  subst hwc
  obtain ⟨W4,hW4⟩: ∃W,W=wc:=⟨_,rfl⟩
  subst hW4
  clear QM1 QC HPB hb0
  obtain ⟨j0,j1,j2⟩:=q10.cells
  go_upto_region 7 with (first
   |(go_at_call 206;(with_reducible refine (QAb.out _ _ q10.qd).mono ?_);rintro en w4 ⟨v4,rfl,hq4,hb4⟩)
   |(go_at_call 108;(with_reducible refine (ZN1.out _).mono ?_);rintro en w5 ⟨az,cz,rfl,hz9,hb5⟩)
   |(go_at_call 109;(with_reducible refine (QM2.out _ _ _ hz9).mono ?_);rintro en w6 ⟨v6,rfl,hq6,hb6⟩)
   |(go_at_call 14;(with_reducible refine (QN.out _ _ hq6).mono ?_);rintro en w7 ⟨v7,rfl,hq7,hb7⟩)
   |(go_at_call 60;(with_reducible refine (QA.out _ _ _ (((hq4.below hb5).below hb6).below hb7) hq7).mono ?_);rintro en w8 ⟨v12,rfl,hq12,hb8⟩;obtain ⟨X12,n12,a12,c12,rfl,hN12,hD12⟩:=id hq12))
  refine wp_worldZ (fun WW=>Below w.heap.size w WW∧QW 33 3 WW w8.heap.size R A2 T2 X12 n12 a12 c12) ⟨below_trans (below_trans (below_trans (below_trans (below_trans (below_trans y3 hb4) hb5) hb6) hb7) hb8) (below_alloc _ _),QW.made hq12⟩ ?_
  intro W8 ⟨y8,q12⟩
  obtain ⟨g12,hg12⟩: ∃g,g=w8.heap.size:=⟨_,rfl⟩
  rw [←hg12] at q12 ⊢
  clear hg12 hq12 hN12 hD12 hb4 hb5 hb6 hb7 hb8 y3 q10 j0 j1 j2 hq4 hz9 hq6 hq7 QAb QM2 QN QA
  obtain ⟨j0,j1,j2⟩:=q12.cells
  go_upto_region 8 with (go_at_call 115;(with_reducible refine (QS.out _ _ q12.qd).mono ?_);rintro en w9 ⟨v13,rfl,hq13,hb9⟩;obtain ⟨X13,n13,a13,c13,rfl,hN13,hD13,hX13,hn13⟩:=id hq13)
  have hz13:ZV 33 3 (w9.alloc (.cells #[.bool (zneg X13),.slice a13 (zl X13).length c13,.int .i64 (n13:Int)] 33)) w9.heap.size X13:=(QW.made hq13).zv (hN13.below (below_alloc _ _))
  have hc13:=(QW.made (tq:=33) hq13).cells.2.2
  refine wp_worldZ (fun WW=>Below w.heap.size w WW∧ZV 33 3 WW w9.heap.size X13∧WW.cell? ⟨w9.heap.size,2,none⟩=some (.int .i64 (n13:Int))) ⟨below_trans (below_trans y8 hb9) (below_alloc _ _),hz13,hc13⟩ ?_
  intro W9 ⟨y9,z13,c13z⟩
  obtain ⟨g13,hg13⟩: ∃g,g=w9.heap.size:=⟨_,rfl⟩
  rw [←hg13] at z13 c13z ⊢
  obtain ⟨r1,r2,r3⟩:=HR.out X13 n13 hD13
  have lX:(zl X13).length≤900000:=Nat.le_trans (zl_len_bits _ _ hX13) (by omega)
  have lP:(zl (pw n13)).length≤900000:=Nat.le_trans (zl_len_pw n13) (by omega)
  have pP:pw n13≠0:=by have:=pw_pos n13;omega
  have HDG:=hid (hxc_digit n M r2)
  have h16:M-16^n<2^B9:=by
   have e16:(16:Nat)^n=2^(4*n):=by rw [Nat.pow_mul]
   have:(2:Nat)^(4*n)≤2^B9:=Nat.pow_le_pow_right (by omega) (by omega)
   omega
  obtain ⟨Z,hZ⟩: ∃Z,Z=M-16^n:=⟨_,rfl⟩
  rw [←hZ] at r1 HDG h16
  have SX2:=hid (SX.out Z h16)
  clear hg13 hq13 hN13 hD13 hX13 hb9 y8 q12 j0 j1 j2 QS hz13 hc13 r2 r3 h16 hZ SX HR
  obtain ⟨B,hB⟩: ∃B,B=X13%pw n13:=⟨_,rfl⟩
  have HB:=hid hB
  have R1:=hid r1
  clear hB r1
  refine wp_region_growL 11 8 [55,56,57,58,59,60,54,61,62,14,15] [Fact.is (.pointer (some ⟨g13,0,none⟩)),Fact.z 3 (X13),Fact.is (.pointer (some ⟨g13,2,none⟩)),Fact.is (.int .i64 (n13:Int)),Fact.z 3 (pw n13),Fact.z2 3 (((Z:Nat):Int)) (B),Fact.z2 3 (((Z:Nat):Int)) (B),Fact.z 3 (((Z:Nat):Int)),Fact.z 3 (B),Fact.z0 W9.heap.size 31,Fact.z0 W9.heap.size 31] [9,10] (by kernel_rfl) (by kernel_rfl) rfl ⟨?o0,?o1,?o2,?o3,?o4,?o5,?o6,?o7,?o8,?o9,?o10,trivial⟩ ?late (fun d _ _ _ _ h=>by cases d<;>exact h) ?after
  case o0=>(refine oQF rfl ?_;intro ρ w1 R hcon hfn hρ hb hp hR;have e13:ρ (.tmp 13)=.pointer (some ⟨g13,0,none⟩):=hρ.tmp 13 rfl;replace hR:=fun v w2 h1 h2=>hR v w2 h1 h2 (fun h=>absurd h (by decide));clear hρ hp;unfold OpRun;go_simp;exact hR _ _ (Below.refl _ _) rfl)
  case o1=>(refine oQF rfl ?_;intro ρ w1 R hcon hfn hρ hb hp hR;have e55:ρ (.tmp 55)=_:=hp 0 55 rfl rfl;obtain ⟨ya9,yc9,yj9,yn9⟩:=ZV.below z13 hb;obtain ⟨j90,j91,-⟩:=yj9;replace hR:=fun v w2 h1 h2=>hR v w2 h1 h2 (fun h=>absurd h (by decide));clear hρ hp;unfold OpRun;go_simp;exact hR _ _ (Below.refl _ _) ⟨ya9,yc9,rfl,yn9⟩)
  case o2=>(refine oQF rfl ?_;intro ρ w1 R hcon hfn hρ hb hp hR;have e13:ρ (.tmp 13)=.pointer (some ⟨g13,0,none⟩):=hρ.tmp 13 rfl;replace hR:=fun v w2 h1 h2=>hR v w2 h1 h2 (fun h=>absurd h (by decide));clear hρ hp;unfold OpRun;go_simp;exact hR _ _ (Below.refl _ _) rfl)
  case o3=>(refine oQF rfl ?_;intro ρ w1 R hcon hfn hρ hb hp hR;have e57:ρ (.tmp 57)=_:=hp 2 57 rfl rfl;have j12:=(hb.cell (World.block_lt_of_cell? _ _ c13z)).trans c13z;replace hR:=fun v w2 h1 h2=>hR v w2 h1 h2 (fun h=>absurd h (by decide));clear hρ hp;unfold OpRun;go_simp;exact hR _ _ (Below.refl _ _) rfl)
  case o4=>(refine oQF rfl ?_;intro ρ w1 R hcon hfn hρ hb hp hR;have e58:ρ (.tmp 58)=_:=hp 3 58 rfl rfl;replace hR:=fun v w2 h1 h2=>hR v w2 h1 h2 (fun h=>absurd h (by decide));clear hρ hp;unfold OpRun;go_simp;(refine (zpowD n13 _ (by first|assumption|omega)).mono ?_;rintro e wn ⟨v9,rfl,hz9,hbn⟩;exact ⟨_,rfl,hR _ _ hbn hz9⟩))
  case o5=>(refine oQF rfl ?_;intro ρ w1 R hcon hfn hρ hb hp hR;have f56:=hp 1 56 rfl rfl;have f59:=hp 4 59 rfl rfl;replace hR:=fun v w2 h1 h2=>hR v w2 h1 h2 (fun h=>absurd h (by decide));clear hρ hp;unfold OpRun;go_simp;(refine (zdivD _ _ _ _ _ f56 f59 (by first|assumption|omega) (by first|assumption|omega) (by first|assumption|omega)).mono ?_;rintro e wn ⟨v9,rfl,hz9,hbn⟩;exact ⟨_,rfl,hR _ _ hbn (by rw [←R1.out,←HB.out.symm];exact hz9)⟩))
  case o6=>(refine oQF rfl ?_;intro ρ w1 R hcon hfn hρ hb hp hR;have f60:=hp 5 60 rfl rfl;replace hR:=fun v w2 h1 h2=>hR v w2 h1 h2 (fun h=>absurd h (by decide));clear hρ hp;unfold OpRun;go_simp;exact hR _ _ (Below.refl _ _) f60)
  case o7=>(refine oQF rfl ?_;intro ρ w1 R hcon hfn hρ hb hp hR;have f54:=hp 6 54 rfl rfl;replace hR:=fun v w2 h1 h2=>hR v w2 h1 h2 (fun h=>absurd h (by decide));clear hρ hp;unfold OpRun;go_simp;(obtain ⟨a97,b97,e97,h97,k97⟩:=ZD2.parts f54;rw [e97];exact hR _ _ (Below.refl _ _) h97))
  case o8=>(refine oQF rfl ?_;intro ρ w1 R hcon hfn hρ hb hp hR;have f54:=hp 6 54 rfl rfl;replace hR:=fun v w2 h1 h2=>hR v w2 h1 h2 (fun h=>absurd h (by decide));clear hρ hp;unfold OpRun;go_simp;(obtain ⟨a97,b97,e97,h97,k97⟩:=ZD2.parts f54;rw [e97];exact hR _ _ (Below.refl _ _) k97))
  case o9=>(refine oQF rfl ?_;intro ρ w1 R hcon hfn hρ hb hp hR;clear hρ hp;unfold OpRun;go_simp;exact hR _ _ (below_alloc _ _) ⟨_,rfl,hb.size,ZL.made rfl⟩ (fun _=>⟨_,rfl,Nat.le_refl _,by simp⟩))
  case o10=>(refine oQF rfl ?_;intro ρ w1 R hcon hfn hρ hb hp hR;clear hρ hp;unfold OpRun;go_simp;exact hR _ _ (below_alloc _ _) ⟨_,rfl,hb.size,ZL.made rfl⟩ (fun _=>⟨_,rfl,Nat.le_refl _,by simp⟩))
  case late=>
   intro o ho
   simp only [List.getElem?_cons_succ,List.getElem?_cons_zero,Option.some.injEq] at ho
   subst ho
   refine ⟨rfl,?_⟩
   intro ρ w1 hρ hb hp
   have f54:=hp 6 54 rfl rfl
   obtain ⟨a97,b97,e97,h97,k97⟩:=ZD2.parts f54
   refine ⟨_,?_,k97⟩
   intro w2
   have hcon:=hρ.con
   go_simp
   try rfl
  case after=>
   intro u wn hb hf hd
   have f61:=hf 7 61 (by omega) rfl
   have f62:=hf 8 62 (by omega) rfl
   have f14:=hf 9 14 (by omega) rfl
   have f15:=hf 10 15 (by omega) rfl
   have d14_15:u 14≠u 15:=hd 9 10 14 15 (by omega) (by omega) (by omega) rfl rfl rfl rfl
   clear hf hd
   simp only [putAll,Act.put,List.setIfInBounds_toArray,List.set_cons_zero,List.set_cons_succ,List.drop_succ_cons,List.drop_zero,List.drop_nil]
   obtain ⟨xa1,xc1,xe1,xn1⟩:=f61
   obtain ⟨xa2,xc2,xe2,xn2⟩:=f62
   obtain ⟨gv14,eg1,hg1,zz1⟩:=f14
   obtain ⟨gv15,eg2,hg2,zz2⟩:=f15
   have gne:gv14≠gv15:=by intro h;apply d14_15;rw [eg1,eg2,h]
   rw [xe1,xe2,eg1,eg2]
   clear xe1 xe2 eg1 eg2 d14_15
   have zst:=zv_store2 (by decide) hb hg1 hg2 gne zz1 zz2 xn1 xn2
   obtain ⟨k0,k1,kf0,kf1,-⟩:=id zz1
   obtain ⟨l0,l1,lf0,lf1,-⟩:=id zz2
   go_upto_region 9 with fail
   clear k0 k1 kf0 kf1 l0 l1 lf0 lf1 zz1 zz2 xn1 xn2 hb
   refine wp_worldZ (fun WW=>Below _ _ WW∧ZV _ _ WW _ _∧ZV _ _ WW _ _) zst ?_
   clear zst
   intro W10 ⟨y10,z14,z15⟩
   have ya:=below_trans y9 y10
   clear y9 y10 z13 c13z hg1 hg2 gne z15
   obtain ⟨a14,c14,zl14,n14⟩:=z14
   obtain ⟨j0,j1,-⟩:=zl14
   have hxl:=hxD_len n Z
   go_upto_if 64 with fail
   obtain ⟨S,hS⟩: ∃S:List UInt8,S=48::120::49::(if n=0 then [] else 46::hxD n Z):=⟨_,rfl⟩
   have HS:=hid hS
   have hSl:S.length≤5000:=by rw [hS];split<;>simp<;>omega
   clear hS
   go_cut [16] (fun s16 wx=>s16=.string (bsOf S)∧Below W10.heap.size W10 wx)
   case first=>as_aux_lemma=>
    by_cases hn0:n=0
    ·have hn1: ¬0<(n:Int):=by omega
     have hn2:decide (0<n)=false:=decide_eq_false (by omega)
     have HS2:=hid (show S= [48,120,49] by rw [HS.out,if_pos hn0])
     clear hn0 HS
     go_wp2_with fail
     go_meet
     exact ⟨by rw [HS2.out];rfl,Below.refl _ _⟩
    ·have hn1:0<(n:Int):=by omega
     have hn2:decide (0<n)=true:=decide_eq_true (by omega)
     have HS2:=hid (show S= [48,120,49]++([46]++hxD n Z) by rw [HS.out,if_neg hn0];rfl)
     obtain ⟨H,hH⟩: ∃H,H=hxD n Z:=⟨_,rfl⟩
     rw [←hH] at SX2 hxl HS2
     clear hn0 hH HS
     have a1:=add_bs (P:=Tryz.prog) [46] H (by simp;omega)
     have a2:=add_bs (P:=Tryz.prog) [48,120,49] ([46]++H) (by simp;omega)
     rw [←HS2.out] at a2
     have b1:(ByteArray.mk #[46])=bsOf [46]:=rfl
     have b2:(ByteArray.mk #[48,120,49])=bsOf [48,120,49]:=rfl
     generalize [46]++H=H2 at *
     have SX3:=hid (fun w (h:Nz 3 w a14 c14 (zl (Z:Int)))=>SX2.out _ w ⟨a14,c14,rfl,h⟩)
     go_wp2_with (go_at_call 139;(with_reducible refine (SX3.out _ n14).mono ?_);rintro en w11 ⟨rfl,hb11⟩)
     go_meet
     exact ⟨rfl,hb11⟩
   case rest=>
    obtain ⟨rfl,hbx⟩:=hcut
    have yx:=below_trans ya hbx
    have hpl:(hxP P).length≤100:=by
     unfold hxP
     have:=decD_len 5 P.natAbs (by omega)
     simp;omega
    have a1:=add_bs (P:=Tryz.prog) S (hxP P) (by omega)
    have DA1:=hid (fun w=>DA.out (S++hxP P) (by rw [List.length_append];omega) w)
    have HTT:=hid (show T=dsh ng (S++hxP P) by
     rw [HT.out,HS.out]
     unfold hxT
     rw [←HDG.out]
     congr 1)
    generalize S++hxP P=SP at *
    generalize hxP P=PP at *
    clear HS HT HDG j0 j1 ya hbx hxl
    go_wp2_with (first
     |(go_at_call 207;(with_reducible refine (TE.out _).mono ?_);rintro en w12 ⟨rfl,rfl⟩)
     |(go_at_call 198;(with_reducible refine (DA1.out _).mono ?_);rintro en w13 ⟨rfl,rfl⟩))
    go_ret2
    exact ⟨by rw [HTT.out];rfl,yx⟩
end Go.Proofs.YtfphmlmgjhebjaaGreatDoor
