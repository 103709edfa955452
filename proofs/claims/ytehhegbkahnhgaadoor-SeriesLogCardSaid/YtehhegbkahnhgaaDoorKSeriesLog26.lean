/- SeriesLog: what the proof leans on, part 26 (Si3 Se8 Se9 Sg4 Sf8 Si4). -/
import Derived.Test.YtehhegbkahnhgaaDoorKSeriesLog21
import Derived.Test.YtehhegbkahnhgaaDoorKSeriesLog25
set_option linter.unusedVariables false
set_option linter.unusedSimpArgs false
namespace Go.Ulp
open Go.RowKit
theorem goodLn_ok (m:Nat) (e:Int) (pl:Nat) (h0:0<m) (hm:m<2^1280) (he: -3000≤e∧e≤3000) (h1:dyQ m e≠1) (hpl:pl≤1300):GoodI (GoodLn m e) pl:=by
 refine ⟨fun t x h=>h.2,?_⟩
 rintro t x ⟨hx,-,-⟩ ht
 have k:2^(100+(GG+4300))≤10^t:=by
  have k1:100+(GG+4300)≤3*t:=by unfold GG;omega
  refine Nat.le_trans (Nat.pow_le_pow_right (by omega) k1) ?_
  rw [Nat.pow_mul]
  exact Nat.pow_le_pow_left (show 2^3≤10 by decide) t
 have q:=hx.ends (Nat.pow_pos (by omega)) h0 hm he h1 pl (GG+4300) hpl rfl k
 unfold fo
 rw [pw_nat]
 exact q
theorem goodLn_fl (m:Nat) (e:Int) (pl t:Nat) (x:Int×Int) (h:GoodLn m e t x) (hE:fo x.1 t pl=fo x.2 t pl) (hpl:pl≤1300):LnFl m e pl (fo x.1 t pl)∧(fo x.1 t pl).natAbs<2^8000:=by
 refine ⟨⟨10^t,100,x,Nat.pow_pos (by omega),h.1,?_,?_⟩,fo_bd h.2.1 hpl⟩
 ·unfold fo;rw [pw_nat];rfl
 ·rw [hE];unfold fo;rw [pw_nat];rfl
theorem bnd_nrmI (z:Int) (pl:Nat) (hz:z.natAbs<2^8000) (hpl:pl≤1300):bndB (nrm z (-(pl:Int)))=true:=by
 obtain ⟨h1,h2⟩:=nrm_bd z (-(pl:Int)) 8000 hz
 have h3:(limbs (nrm z (-(pl:Int))).1.natAbs).length≤400:=len_le (Nat.le_of_lt h1) (by omega)
 unfold bndB dyB
 have h4: -10000≤(nrm z (-(pl:Int))).2∧(nrm z (-(pl:Int))).2≤10000:=by omega
 simp only [decide_eq_true_eq,Bool.and_eq_true]
 omega
def LF (m:Nat) (x0:Int) (pl:Nat) (D:Dy):Prop:=bndB D=true∧((m=1∧x0=0∧D=(0,0))∨(¬(m=1∧x0=0)∧ ∃z:Int,LnFl m x0 pl z∧D=nrm z (-(pl:Int))))
def RetLF (ti:TypeId) (w:World) (m:Nat) (x0:Int) (pl:Nat) (en:Ending) (w':World):Prop:= ∃D,LF m x0 pl D∧RetQD ti w D 20000 2000 en w'
end Go.Ulp
namespace Go.Proofs.YtehhegbkahnhgaaDoor
open Go.RowKit Go.Ulp
set_option maxHeartbeats 4000000
set_option maxRecDepth 100000
theorem ent_lf1 (p:Int) (cp:Value) (w:World):Sem.run Tryd.prog (callFunc 43 #[.int .i64 p,cp]) w=.ok (.enter 43 #[.int .i64 p,cp]) w:=by
 simp [callFunc,go_sem,Tryd.func43,Tryd.f43]
theorem lnC_any (m:Nat) (x0:Int) (t g:Nat) (a:Option Addr) (l c:Nat) (n:Int) (w:World) (hz:QL 34 w g false (.slice a l c) n) (hq:QD 3 w (nrm (m:Int) x0) 400000 200000 (.agg #[.bool false,.slice a l c,.int .i64 n])) (hm:0<m) (hm40:m<2^1280) (he: -3000≤x0∧x0≤3000) (t0:20≤t) (t1:t≤3000000000):
 Calls Tryd.prog 43 #[.int .i64 (t:Int),.pointer (some ⟨g,0,none⟩)] w (RetGI 3 w (GoodLn m x0) t):=by
 have EB:=hid (fun w h=>lnBounds_any m x0 t (.agg #[.bool false,.slice a l c,.int .i64 n]) w h hm hm40 he t0 t1)
 have yb0:=below_alloc w (.cells #[.bool false,.slice none 0 0,.bool false,.slice none 0 0] 64)
 have zR:BC 64 (w.alloc (.cells #[.bool false,.slice none 0 0,.bool false,.slice none 0 0] 64)) w.heap.size false (.slice none 0 0) false (.slice none 0 0):=BC.made rfl
 obtain ⟨⟨j0,j1,-⟩,j2,-⟩:=hz.below yb0
 have HQ:=hid (hq.below yb0)
 clear hz hq
 go_enter Tryd.func43,Tryd.ntmps43
 go_wp2_with (go_at_call 44;(with_reducible refine (EB.out _ HQ.out).mono ?_);rintro en w2 ⟨y,hgy,v2,rfl,⟨a2,c2,b2,d2,rfl,m1,m2⟩,hb2⟩;have zR2:=zR.below hb2;obtain ⟨⟨k0,k1,k2,k3⟩,f0,f1,f2,f3,s8⟩:=id zR2;have HG:=hid hgy;clear hgy)
 refine bodyPost_ret (by simp [results,Tryd.results43,go_sem,k0,k1,k2,k3];try rfl) rfl ?_
 exact ⟨y,HG.out,_,rfl,⟨a2,c2,b2,d2,rfl,m1.pu4 s8 (by decide) _ _ _ _,m2.pu4 s8 (by decide) _ _ _ _⟩,below_pu4 (below_trans yb0 hb2) (Nat.le_refl _) _ _ _ _⟩
theorem logFloor_any (m:Nat) (x0:Int) (pl:Nat) (v:Value) (w:World) (hv:QD 3 w (nrm (m:Int) x0) 400000 200000 v) (hm:0<m) (hm40:m<2^1280) (he: -3000≤x0∧x0≤3000) (hnr:nrm (m:Int) x0=((m:Int),x0)) (hdq: ¬(m=1∧x0=0)→dyQ m x0≠1) (hpl:pl≤1300):
 Calls Tryd.prog 17 #[v,.int .i64 (pl:Int)] w (RetLF 3 w m x0 pl):=by
 obtain ⟨X,n,a,c,rfl,h0,hX,hXA,hn⟩:=id hv
 have hsg:=sign_of X n m x0 false hX hm
 rw [hsg] at hv ⊢
 obtain ⟨la,hla⟩: ∃l,l=(zl X).length:=⟨_,rfl⟩
 rw [←hla] at hv ⊢
 have HV:=hid (fun w' (hb:Below w.heap.size w w')=>hv.below hb)
 have hc10:cmpD (nrm (m:Int) x0) (nrm 1 0)=0↔(m=1∧x0=0):=by
  constructor
  ·intro h
   have h1:=cmpD_eq _ _ (nrm_isN _ _) (nrm_isN _ _) h
   rw [hnr,show nrm 1 0=(1,0) by decide] at h1
   injection h1 with a1 a2
   exact ⟨by omega,a2⟩
  ·rintro ⟨rfl,rfl⟩
   exact cmpD_self _
 have QC:=hid (fun v u w h k=>qcmp_any v u (nrm (m:Int) x0) (nrm 1 0) 400000 200000 1 0 w h k (by omega) (by omega) (by omega) (by omega))
 obtain ⟨cz,hcz⟩: ∃z,z=cmpD (nrm (m:Int) x0) (nrm 1 0):=⟨_,rfl⟩
 rw [←hcz] at QC hc10
 have ON:=hid (fun w=>zND 1 (by omega) (by omega) w)
 have zA:QL 34 ((w.alloc (.cells #[.bool false,.slice a la c,.int .i64 (n:Int)] 34)).alloc (.cells #[.bool false,.slice none 0 0,.int .i64 0] 34)) w.heap.size false (.slice a la c) (n:Int):=(QL.made rfl).alloc _
 have zR:QL 34 ((w.alloc (.cells #[.bool false,.slice a la c,.int .i64 (n:Int)] 34)).alloc (.cells #[.bool false,.slice none 0 0,.int .i64 0] 34)) (w.heap.size+1) false (.slice none 0 0) 0:=QL.made (by first|omega|(simp;done)|(simp;omega))
 have yb0:Below w.heap.size w ((w.alloc (.cells #[.bool false,.slice a la c,.int .i64 (n:Int)] 34)).alloc (.cells #[.bool false,.slice none 0 0,.int .i64 0] 34)):=by (repeat' first|(with_reducible first|assumption|apply bR|apply bA|apply bN|apply bD|apply bL|apply bS)|refine bT ?_ (by assumption)|go_size)
 have FL:=hid (fun w' (hz:QL 34 w' w.heap.size false (.slice a la c) (n:Int)) (hb:Below w.heap.size w w') (h1: ¬(m=1∧x0=0))=>floored_any pl 43 (.pointer (some ⟨w.heap.size,0,none⟩)) (GoodLn m x0) w' hpl (fun p w=>ent_lf1 p _ w) (goodLn_ok m x0 pl hm hm40 he (hdq h1) hpl) (fun t w'' t0 t1 hb2=>lnC_any m x0 t w.heap.size a la c (n:Int) w'' (QL.below hz hb2) (HV.out w'' (below_trans hb hb2)) hm hm40 he t0 t1))
 have HR:=hid (show ∀t x en w',¬(m=1∧x0=0)→GoodLn m x0 t x→fo x.1 t pl=fo x.2 t pl→RetQD 3 w (nrm (fo x.1 t pl) (-(pl:Int))) 9300 1300 en w'→RetLF 3 w m x0 pl en w' from fun t x en w' h0 h1 h2 h3=>by
  obtain ⟨g1,g2⟩:=goodLn_fl m x0 pl t x h1 h2 hpl
  exact ⟨_,⟨bnd_nrmI _ pl g2 hpl,.inr ⟨h0,_,g1,rfl⟩⟩,h3.weak (by omega) (by omega)⟩)
 have HR0:=hid (show ∀en w',m=1∧x0=0→RetQD 3 w (0,0) 1 0 en w'→RetLF 3 w m x0 pl en w' from fun en w' h h3=>⟨_,⟨rfl,.inl ⟨h.1,h.2,rfl⟩⟩,h3.weak (by omega) (by omega)⟩)
 have hmf: ∀fn first cap w,(Instr.makeFunc fn first cap).run Tryd.prog w=.ok (.func fn first cap) w:=fun _ _ _ _=>rfl
 clear h0 hX hXA hn hsg hla hcz hv hm hm40 he hnr hdq
 go_enter Tryd.func17,Tryd.ntmps17
 go_upto_region 1 with fail
 refine wp_worldZ (fun WW=>Below w.heap.size w WW∧QL 34 WW w.heap.size false (.slice a la c) (n:Int)∧QL 34 WW (w.heap.size+1) false (.slice none 0 0) 0) ⟨yb0,zA,zR⟩ ?_
 clear yb0 zA zR
 intro W1 ⟨yb1,zA,zR⟩
 refine wp_region_grow 5 [5,6,7,8,9] [Fact.q 3 (nrm (m:Int) x0) 400000 200000,Fact.z 3 1,Fact.q 3 (nrm 1 0) 1 0,Fact.is (.int .i64 cz),Fact.is (.bool (cz==0))] (by kernel_rfl) (by kernel_rfl) ⟨?o0,?o1,?o2,?o3,?o4,trivial⟩ ?after
 case o0=>(refine oQ rfl ?_;intro ρ w1 R hcon hfn hρ hb hp hR;have e2:ρ (.tmp 2)=.pointer (some ⟨w.heap.size,0,none⟩):=hρ.tmp 2 rfl;obtain ⟨⟨j0,j1,-⟩,j2,-⟩:=zA.below hb;clear hρ hp;unfold OpRun;go_simp;exact hR _ _ (Below.refl _ _) (HV.out _ (below_trans yb1 hb)))
 case o1=>(refine oQ rfl ?_;intro ρ w1 R hcon hfn hρ hb hp hR;clear hρ hp;unfold OpRun;go_simp;(refine (ON.out _).mono ?_;rintro e wn ⟨v9,rfl,hv9,hbn⟩;exact ⟨_,rfl,hR _ _ hbn hv9⟩))
 case o2=>(refine oQ rfl ?_;intro ρ w1 R hcon hfn hρ hb hp hR;have f6:=hp 1 6 rfl rfl;clear hρ hp;unfold OpRun;go_simp;(obtain ⟨a91,c91,e91,n91⟩:=f6;rw [e91];exact hR _ _ (Below.refl _ _) (q_one n91)))
 case o3=>(refine oQ rfl ?_;intro ρ w1 R hcon hfn hρ hb hp hR;have f5:=hp 0 5 rfl rfl;have f7:=hp 2 7 rfl rfl;clear hρ hp;unfold OpRun;go_simp;(refine (QC.out _ _ _ f5 f7).mono ?_;rintro e wn ⟨rfl,hbn⟩;exact ⟨_,rfl,hR _ _ hbn rfl⟩))
 case o4=>(refine oQ rfl ?_;intro ρ w1 R hcon hfn hρ hb hp hR;have e8:ρ (.tmp 8)=_:=hp 3 8 rfl rfl;clear hρ hp;unfold OpRun;go_simp;exact hR _ _ (Below.refl _ _) rfl)
 case after=>
  intro u wn hb hf
  have e9:u 9=_:=hf 4 9 (by omega) rfl
  clear hf
  simp only [putAll,Act.put,List.setIfInBounds_toArray,List.set_cons_zero,List.set_cons_succ,List.drop_succ_cons,List.drop_zero,List.drop_nil]
  rw [e9]
  have yb2:=below_trans yb1 hb
  have zA2:=zA.below hb
  have zR2:=zR.below hb
  clear yb1 zA zR hb
  by_cases hc:cz=0
  ·have hzb:(cz==0)=true:=beq_iff_eq.2 hc
   have H1:=hid (hc10.1 hc)
   rw [hzb]
   clear hc hc10 hzb FL HR
   obtain ⟨⟨k0,k1,f0,f1,hs2⟩,k2,f2⟩:=id zR2
   go_wp2_with fail
   refine bodyPost_ret (by simp [results,Tryd.results17,go_sem,k0,k1,k2];try rfl) rfl ?_
   exact HR0.out _ _ H1.out ⟨_,rfl,QD.zero (by omega),Go.Ulp.Below.put3 yb2 (by omega) _ _ _⟩
  ·have hzb:(cz==0)=false:=beq_eq_false_iff_ne.2 hc
   have H1:=hid (fun h=>hc (hc10.2 h))
   rw [hzb]
   have FL2:=hid (fun w' hz hb=>FL.out w' hz hb H1.out)
   have HR2:=hid (fun t x en w' h1 h2 h3=>HR.out t x en w' H1.out h1 h2 h3)
   clear hc hc10 hzb FL HR HR0 H1
   go_wp2_with (go_at_call 36;(with_reducible refine (FL2.out _ zA2 yb2).mono ?_);rintro en w7 ⟨t,x,hgx,hfx,v7,rfl,⟨X7,n7,a7,c7,rfl,m7,hD7,hX7,hn7⟩,hb7⟩;have HD7:=hid hD7;have HGX:=hid hgx;have HFX:=hid hfx;clear hD7 hgx hfx;have zR4:=zR2.below hb7;obtain ⟨⟨k0,k1,f0,f1,hs2⟩,k2,f2⟩:=id zR4)
   refine bodyPost_ret (by simp [results,Tryd.results17,go_sem,k0,k1,k2];try rfl) rfl ?_
   exact HR2.out t x _ _ HGX.out HFX.out ⟨_,rfl,⟨X7,n7,a7,c7,rfl,m7.set3Q zR4 (by decide) _ _ _,HD7.out,hX7,hn7⟩,Go.Ulp.Below.put3 (below_trans yb2 hb7) (by omega) _ _ _⟩
end Go.Proofs.YtehhegbkahnhgaaDoor
namespace Go.Ulp
open Go.RowKit
def askE (n:Bool) (L:List Nat) (x pl:Int):Int:=if dyadE n L x≠0 then dyadE n L x else if pl<0∨1300<pl then 1 else if 40<L.length then 2 else 0
theorem ask_zero {n:Bool} {L:List Nat} {x pl:Int} (h:askE n L x pl=0):dyadE n L x=0∧0≤pl∧pl≤1300∧L.length≤40:=by
 unfold askE at h
 by_cases hd:dyadE n L x=0
 ·rw [if_neg (by omega)] at h
  by_cases hp:pl<0∨1300<pl
  ·rw [if_pos hp] at h;omega
  ·rw [if_neg hp] at h
   by_cases hl:40<L.length
   ·rw [if_pos hl] at h;omega
   ·exact ⟨hd,by omega,by omega,by omega⟩
 ·rw [if_pos hd] at h;exact absurd h hd
end Go.Ulp
namespace Go.Proofs.YtehhegbkahnhgaaDoor
open Go.RowKit Go.Ulp
set_option maxHeartbeats 4000000
set_option maxRecDepth 100000
theorem sCheck_any (n0:Bool) (a0:Option Addr) (c0:Nat) (L0:List Nat) (x0 pl:Int) (w:World) (h0:Ns .u32 w a0 c0 L0) (hl0:Lim L0):
 Calls Tryd.prog 18 #[.agg #[.bool n0,.slice a0 L0.length c0,.int .i64 x0],.int .i64 pl] w fun e w'=>e=.returned (.int .i64 (askE n0 L0 x0 pl))∧Below w.heap.size w w':=by
 have CK:=hid (fun w h=>dyadCheck_any n0 a0 c0 L0 x0 w h hl0)
 have H0:=hid h0
 have zA:QL 24 (w.alloc (.cells #[.bool n0,.slice a0 L0.length c0,.int .i64 x0] 24)) w.heap.size n0 (.slice a0 L0.length c0) x0:=QL.made rfl
 have yb:=below_alloc w (.cells #[.bool n0,.slice a0 L0.length c0,.int .i64 x0] 24)
 have HA:=hid (show askE n0 L0 x0 pl=if dyadE n0 L0 x0≠0 then dyadE n0 L0 x0 else if pl<0∨1300<pl then 1 else if 40<L0.length then 2 else 0 from rfl)
 generalize askE n0 L0 x0 pl=A at *
 generalize dyadE n0 L0 x0=E at *
 obtain ⟨⟨j0,j1,-⟩,j2,-⟩:=id zA
 have h1:=h0.1
 have h2:=h0.2.1
 clear h0 hl0
 by_cases hE:E=0
 ·subst hE
  by_cases h3:pl<0
  ·have e:A=1:=by rw [HA.out,if_neg (by omega),if_pos (.inl h3)]
   subst e
   clear HA
   go_enter Tryd.func18,Tryd.ntmps18
   go_wp2_with (go_at_call 45;(with_reducible refine (CK.out _ (H0.out.below yb)).mono ?_);rintro e w5 ⟨rfl,hb5⟩)
   refine bodyPost_ret (by simp [results,Tryd.results18,go_sem];try rfl) rfl ?_
   exact ⟨rfl,below_trans yb hb5⟩
  ·by_cases h4:1300<pl
   ·have e:A=1:=by rw [HA.out,if_neg (by omega),if_pos (.inr h4)]
    subst e
    clear HA
    go_enter Tryd.func18,Tryd.ntmps18
    go_wp2_with (go_at_call 45;(with_reducible refine (CK.out _ (H0.out.below yb)).mono ?_);rintro e w5 ⟨rfl,hb5⟩)
    refine bodyPost_ret (by simp [results,Tryd.results18,go_sem];try rfl) rfl ?_
    exact ⟨rfl,below_trans yb hb5⟩
   ·rw [if_neg (by omega),if_neg (by omega)] at HA
    by_cases h5:40<L0.length
    ·have g5:(40:Int)<(L0.length:Int):=by omega
     have e:A=2:=by rw [HA.out,if_pos h5]
     subst e
     clear HA h5
     go_enter Tryd.func18,Tryd.ntmps18
     go_wp2_with (go_at_call 45;(with_reducible refine (CK.out _ (H0.out.below yb)).mono ?_);rintro e w5 ⟨rfl,hb5⟩;have zA5:=zA.below hb5;obtain ⟨⟨k0,k1,-⟩,k2,-⟩:=id zA5)
     refine bodyPost_ret (by simp [results,Tryd.results18,go_sem];try rfl) rfl ?_
     exact ⟨rfl,below_trans yb hb5⟩
    ·have g5: ¬(40:Int)<(L0.length:Int):=by omega
     have e:A=0:=by rw [HA.out,if_neg h5]
     subst e
     clear HA h5
     go_enter Tryd.func18,Tryd.ntmps18
     go_wp2_with (go_at_call 45;(with_reducible refine (CK.out _ (H0.out.below yb)).mono ?_);rintro e w5 ⟨rfl,hb5⟩;have zA5:=zA.below hb5;obtain ⟨⟨k0,k1,-⟩,k2,-⟩:=id zA5)
     refine bodyPost_ret (by simp [results,Tryd.results18,go_sem];try rfl) rfl ?_
     exact ⟨rfl,below_trans yb hb5⟩
 ·have hzb:(E==0)=false:=beq_eq_false_iff_ne.2 hE
  have e:A=E:=by rw [HA.out,if_pos hE]
  subst e
  clear HA
  go_enter Tryd.func18,Tryd.ntmps18
  go_wp2_with (go_at_call 45;(with_reducible refine (CK.out _ (H0.out.below yb)).mono ?_);rintro e w5 ⟨rfl,hb5⟩;have zA5:=zA.below hb5;obtain ⟨⟨k0,k1,-⟩,k2,-⟩:=id zA5)
  refine bodyPost_ret (by simp [results,Tryd.results18,go_sem];try rfl) rfl ?_
  exact ⟨rfl,below_trans yb hb5⟩
end Go.Proofs.YtehhegbkahnhgaaDoor
namespace Go.Ulp
open Go.RowKit
theorem le40 {L:List Nat} (hl:Lim L) (h:L.length≤40):lval L<2^1280:=by
 have a:=lval_lt L hl
 obtain ⟨z,hz⟩: ∃z,z=1280:=⟨_,rfl⟩
 rw [←hz]
 have b:4294967296^L.length≤2^z:=by
  rw [show (4294967296:Nat)=2^32 by decide,←Nat.pow_mul]
  exact Nat.pow_le_pow_right (by omega) (by omega)
 exact Nat.lt_of_lt_of_le a b
end Go.Ulp
namespace Go.Proofs.YtehhegbkahnhgaaDoor
open Go.RowKit Go.Ulp
set_option maxHeartbeats 4000000
set_option maxRecDepth 100000
end Go.Proofs.YtehhegbkahnhgaaDoor
namespace Go.Ulp
open Go.RowKit
def LogSaid (n0:Bool) (m:Nat) (x0:Int) (pl:Nat) (D:Dy) (er:Int):Prop:=
 ((n0=true∨m=0)∧D=(0,0)∧er=4)∨(n0=false∧0<m∧(x0< -3000∨3000<x0)∧D=(0,0)∧er=2)∨(n0=false∧0<m∧ -3000≤x0∧x0≤3000∧m=1∧x0=0∧D=(0,0)∧er=0)∨(n0=false∧0<m∧ -3000≤x0∧x0≤3000∧ ¬(m=1∧x0=0)∧er=0∧ ∃z:Int,LnFl m x0 pl z∧D=nrm z (-(pl:Int)))
def RetLog (w:World) (n0:Bool) (m:Nat) (x0:Int) (pl:Nat) (en:Ending) (w':World):Prop:= ∃D er,RetVE w D er en w'∧LogSaid n0 m x0 pl D er
end Go.Ulp
namespace Go.Proofs.YtehhegbkahnhgaaDoor
open Go.RowKit Go.Ulp
set_option maxHeartbeats 4000000
set_option maxRecDepth 100000
theorem ent_log1 (p:Int) (cp:Value) (w:World):Sem.run Tryd.prog (callFunc 41 #[.int .i64 p,cp]) w=.ok (.enter 41 #[.int .i64 p,cp]) w:=by
 simp [callFunc,go_sem,Tryd.func41,Tryd.f41]
theorem sLog_neg (n0:Bool) (a0:Option Addr) (c0 m:Nat) (x0:Int) (pl:Nat) (w:World) (h0:Ns .u32 w a0 c0 (limbs m)) (hl0:Lim (limbs m)) (hA:askE n0 (limbs m) x0 pl=0) (hn:n0=true∨m=0):
 Calls Tryd.prog 15 #[.agg #[.bool n0,.slice a0 (limbs m).length c0,.int .i64 x0],.int .i64 (pl:Int)] w (RetVE w (0,0) 4):=by
 have CK:=hid (fun w h=>sCheck_any n0 a0 c0 (limbs m) x0 pl w h hl0)
 rw [hA] at CK
 have H0:=hid h0
 have SG:=hid (fun w=>dyadSign_any n0 a0 (limbs m).length c0 x0 w)
 have zA0:QL 24 ((w.alloc (.cells #[.bool n0,.slice a0 (limbs m).length c0,.int .i64 x0] 24)).alloc (.cells #[.bool false,.slice none 0 0,.int .i64 0] 24)) w.heap.size n0 (.slice a0 (limbs m).length c0) x0:=(QL.made rfl).alloc _
 have zR0:QL 24 ((w.alloc (.cells #[.bool n0,.slice a0 (limbs m).length c0,.int .i64 x0] 24)).alloc (.cells #[.bool false,.slice none 0 0,.int .i64 0] 24)) (w.heap.size+1) false (.slice none 0 0) 0:=QL.made (by first|omega|(simp;done)|(simp;omega))
 have yb0:Below w.heap.size w ((w.alloc (.cells #[.bool n0,.slice a0 (limbs m).length c0,.int .i64 x0] 24)).alloc (.cells #[.bool false,.slice none 0 0,.int .i64 0] 24)):=by (repeat' first|(with_reducible first|assumption|apply bR|apply bA|apply bN|apply bD|apply bL|apply bS)|refine bT ?_ (by assumption)|go_size)
 have hs:dSign n0 (limbs m).length≤0:=by
  rcases hn with rfl|rfl
  ·unfold dSign;split<;>simp
  ·exact Int.le_refl _
 generalize dSign n0 (limbs m).length=sv at *
 clear h0 hA hl0 hn
 go_enter Tryd.func15,Tryd.ntmps15
 go_upto_region 4 with (go_at_call 18;(with_reducible refine (CK.out _ (H0.out.below yb0)).mono ?_);rintro en w1 ⟨rfl,hb1⟩)
 have yb1:=below_trans yb0 hb1
 have zA1:=zA0.below hb1
 have zR1:=zR0.below hb1
 clear zA0 zR0 yb0 hb1 CK
 obtain ⟨⟨j0,j1,-⟩,j2,-⟩:=id zA1
 go_wp2_with (go_at_call 39;(with_reducible refine (SG.out _).mono ?_);rintro en w2 ⟨rfl,hb2⟩;have zR2:=zR1.below hb2;obtain ⟨⟨k0,k1,f0,f1,hs2⟩,k2,f2⟩:=id zR2)
 refine bodyPost_ret (by simp [results,Tryd.results15,go_sem,k0,k1,k2];try rfl) rfl ?_
 exact ⟨_,rfl,VD.none _,Go.Ulp.Below.put3 (below_trans yb1 hb2) (by omega) _ _ _⟩
theorem sLog_out (n0:Bool) (a0:Option Addr) (c0 m:Nat) (x0:Int) (pl:Nat) (w:World) (h0:Ns .u32 w a0 c0 (limbs m)) (hl0:Lim (limbs m)) (hA:askE n0 (limbs m) x0 pl=0) (hn:n0=false) (hm:0<m) (hx:x0< -3000∨3000<x0):
 Calls Tryd.prog 15 #[.agg #[.bool n0,.slice a0 (limbs m).length c0,.int .i64 x0],.int .i64 (pl:Int)] w (RetVE w (0,0) 2):=by
 have CK:=hid (fun w h=>sCheck_any n0 a0 c0 (limbs m) x0 pl w h hl0)
 rw [hA] at CK
 have H0:=hid h0
 have SG:=hid (fun w=>dyadSign_any n0 a0 (limbs m).length c0 x0 w)
 have zA0:QL 24 ((w.alloc (.cells #[.bool n0,.slice a0 (limbs m).length c0,.int .i64 x0] 24)).alloc (.cells #[.bool false,.slice none 0 0,.int .i64 0] 24)) w.heap.size n0 (.slice a0 (limbs m).length c0) x0:=(QL.made rfl).alloc _
 have zR0:QL 24 ((w.alloc (.cells #[.bool n0,.slice a0 (limbs m).length c0,.int .i64 x0] 24)).alloc (.cells #[.bool false,.slice none 0 0,.int .i64 0] 24)) (w.heap.size+1) false (.slice none 0 0) 0:=QL.made (by first|omega|(simp;done)|(simp;omega))
 have yb0:Below w.heap.size w ((w.alloc (.cells #[.bool n0,.slice a0 (limbs m).length c0,.int .i64 x0] 24)).alloc (.cells #[.bool false,.slice none 0 0,.int .i64 0] 24)):=by (repeat' first|(with_reducible first|assumption|apply bR|apply bA|apply bN|apply bD|apply bL|apply bS)|refine bT ?_ (by assumption)|go_size)
 have hs: ¬dSign n0 (limbs m).length≤0:=by
  have:(limbs m).length≠0:=fun h=>by have:=(limbs_nil m).1 (List.length_eq_zero_iff.1 h);omega
  unfold dSign
  rw [if_neg this,hn]
  simp
 generalize dSign n0 (limbs m).length=sv at *
 clear h0 hA hl0 hn hm
 by_cases hx1:x0< -3000
 ·clear hx
  go_enter Tryd.func15,Tryd.ntmps15
  go_upto_region 4 with (go_at_call 18;(with_reducible refine (CK.out _ (H0.out.below yb0)).mono ?_);rintro en w1 ⟨rfl,hb1⟩)
  have yb1:=below_trans yb0 hb1
  have zA1:=zA0.below hb1
  have zR1:=zR0.below hb1
  clear zA0 zR0 yb0 hb1 CK
  obtain ⟨⟨j0,j1,-⟩,j2,-⟩:=id zA1
  go_wp2_with (go_at_call 39;(with_reducible refine (SG.out _).mono ?_);rintro en w2 ⟨rfl,hb2⟩;have zR2:=zR1.below hb2;obtain ⟨⟨k0,k1,f0,f1,hs2⟩,k2,f2⟩:=id zR2;obtain ⟨⟨jj0,jj1,-⟩,jj2,-⟩:=zA1.below hb2)
  refine bodyPost_ret (by simp [results,Tryd.results15,go_sem,k0,k1,k2];try rfl) rfl ?_
  exact ⟨_,rfl,VD.none _,Go.Ulp.Below.put3 (below_trans yb1 hb2) (by omega) _ _ _⟩
 ·have hx2:3000<x0:=by omega
  clear hx
  go_enter Tryd.func15,Tryd.ntmps15
  go_upto_region 4 with (go_at_call 18;(with_reducible refine (CK.out _ (H0.out.below yb0)).mono ?_);rintro en w1 ⟨rfl,hb1⟩)
  have yb1:=below_trans yb0 hb1
  have zA1:=zA0.below hb1
  have zR1:=zR0.below hb1
  clear zA0 zR0 yb0 hb1 CK
  obtain ⟨⟨j0,j1,-⟩,j2,-⟩:=id zA1
  go_wp2_with (go_at_call 39;(with_reducible refine (SG.out _).mono ?_);rintro en w2 ⟨rfl,hb2⟩;have zR2:=zR1.below hb2;obtain ⟨⟨k0,k1,f0,f1,hs2⟩,k2,f2⟩:=id zR2;obtain ⟨⟨jj0,jj1,-⟩,jj2,-⟩:=zA1.below hb2)
  refine bodyPost_ret (by simp [results,Tryd.results15,go_sem,k0,k1,k2];try rfl) rfl ?_
  exact ⟨_,rfl,VD.none _,Go.Ulp.Below.put3 (below_trans yb1 hb2) (by omega) _ _ _⟩
theorem sLog_in (n0:Bool) (a0:Option Addr) (c0 m:Nat) (x0:Int) (pl:Nat) (w:World) (h0:Ns .u32 w a0 c0 (limbs m)) (hl0:Lim (limbs m)) (hA:askE n0 (limbs m) x0 pl=0) (hn:n0=false) (hm:0<m) (hx1: ¬x0< -3000) (hx2: ¬3000<x0) (hT:Tab 0 w):
 Calls Tryd.prog 15 #[.agg #[.bool n0,.slice a0 (limbs m).length c0,.int .i64 x0],.int .i64 (pl:Int)] w (fun en w'=> ∃D,RetVE w D 0 en w'∧((m=1∧x0=0∧D=(0,0))∨(¬(m=1∧x0=0)∧ ∃z:Int,LnFl m x0 pl z∧D=nrm z (-(pl:Int))))):=by
 have CK:=hid (fun w h=>sCheck_any n0 a0 c0 (limbs m) x0 pl w h hl0)
 rw [hA] at CK
 have H0:=hid h0
 have SG:=hid (fun w=>dyadSign_any n0 a0 (limbs m).length c0 x0 w)
 have zA0:QL 24 ((w.alloc (.cells #[.bool n0,.slice a0 (limbs m).length c0,.int .i64 x0] 24)).alloc (.cells #[.bool false,.slice none 0 0,.int .i64 0] 24)) w.heap.size n0 (.slice a0 (limbs m).length c0) x0:=(QL.made rfl).alloc _
 have zR0:QL 24 ((w.alloc (.cells #[.bool n0,.slice a0 (limbs m).length c0,.int .i64 x0] 24)).alloc (.cells #[.bool false,.slice none 0 0,.int .i64 0] 24)) (w.heap.size+1) false (.slice none 0 0) 0:=QL.made (by first|omega|(simp;done)|(simp;omega))
 have yb0:Below w.heap.size w ((w.alloc (.cells #[.bool n0,.slice a0 (limbs m).length c0,.int .i64 x0] 24)).alloc (.cells #[.bool false,.slice none 0 0,.int .i64 0] 24)):=by (repeat' first|(with_reducible first|assumption|apply bR|apply bA|apply bN|apply bD|apply bL|apply bS)|refine bT ?_ (by assumption)|go_size)
 subst hn
 obtain ⟨hd,-,hpl,hl40⟩:=ask_zero hA
 obtain ⟨b1,b2,b3,-,-,hodd⟩:=dyadE_zero hl0 hd
 rw [lval_limbs] at hodd
 have hm40:m<2^1280:=by have:=le40 hl0 hl40;rwa [lval_limbs] at this
 have hdq: ¬(m=1∧x0=0)→dyQ m x0≠1:=fun h1 h2=>h1 (dyQ_one m x0 (hodd (by omega)) h2)
 have HT:=hid hT
 have hs: ¬dSign false (limbs m).length≤0:=by
  have:(limbs m).length≠0:=fun h=>by have:=(limbs_nil m).1 (List.length_eq_zero_iff.1 h);omega
  unfold dSign
  rw [if_neg this]
  simp
 generalize dSign false (limbs m).length=sv at *
 have OF:=hid (show ∀w,Calls Tryd.prog 21 #[.int .u64 1] w fun e w'=>RetN w 1 e w' from fun w=>natOf_any 1 (by omega) w)
 have NO:=hid (show ∀a c w,Ns .u32 w a c (limbs 1)→Tab 0 w→Calls Tryd.prog 20 #[.bool false,.slice a (limbs 1).length c,.int .i64 0] w (RetVD w (nrm 1 0)) from fun a c w h t=>normD_any false a c 1 0 w h (by decide) (by omega) t)
 have e1:nrm 1 0=(1,0):=by decide
 have SA:=hid (show ∀v w,Ns .u32 w a0 c0 (limbs m)→VD w (nrm 1 0) v→Calls Tryd.prog 40 #[.agg #[.bool false,.slice a0 (limbs m).length c0,.int .i64 x0],v] w fun e w'=>e=.returned (.bool (decide (m=1∧x0=0)))∧Below w.heap.size w w' from fun v w h hv=>by
  obtain ⟨a1,c1,rfl,h1⟩:=hv
  have q:=same_any false a0 c0 (limbs m) x0 (decide ((nrm 1 0).1<0)) a1 c1 (limbs (nrm 1 0).1.natAbs) (nrm 1 0).2 w h h1
  have sd:=same_dy ((m:Int),x0) (nrm 1 0)
  rw [decide_eq_false (show ¬((m:Int),x0).1<0 from by show ¬(m:Int)<0;omega)] at sd
  have sd2:sameB false (limbs m) x0 (decide ((nrm 1 0).1<0)) (limbs (nrm 1 0).1.natAbs) (nrm 1 0).2=decide (m=1∧x0=0):=by
   refine Eq.trans sd (decide_eq_decide.2 ?_)
   rw [e1,Prod.mk.injEq]
   constructor
   ·rintro ⟨u,v⟩;exact ⟨by omega,v⟩
   ·rintro ⟨u,v⟩;exact ⟨by omega,v⟩
  rw [sd2] at q
  exact q)
 obtain ⟨bo,hbo⟩: ∃b,b=decide (m=1∧x0=0):=⟨_,rfl⟩
 rw [←hbo] at SA
 obtain ⟨p0,hp0⟩: ∃p0:Nat,p0=pl+64:=⟨_,rfl⟩
 have wP:IntKind.i64.wrap ((pl:Int)+64)=(pl:Int)+64:=IntWalk.i64_in _ (by omega)
 have eP:(p0:Int)=(pl:Int)+64:=by omega
 have FR:=hid (fun w' hz hN hT (hq: ¬(m=1∧x0=0))=>floor9_any pl p0 41 (.pointer (some ⟨w.heap.size,0,none⟩)) (GoodL m x0) w' (by omega) (by omega) (by omega) hT (fun p w=>ent_log1 p _ w) (log_bnd m x0 pl hm hm40 ⟨by omega,by omega⟩ (hdq hq) (by omega)) (fun p w'' h1 h2 hb=>logFn_any m x0 false p w.heap.size a0 c0 w'' (QL.below hz hb) (Ns.below hN hb) hm hm40 ⟨by omega,by omega⟩ h1 h2 (Tab.below hT hb)))
 have HLF:=hid (fun p D E h hE=>log_fl m x0 pl p D E h hE)
 have hmf: ∀fn first cap w,(Instr.makeFunc fn first cap).run Tryd.prog w=.ok (.func fn first cap) w:=fun _ _ _ _=>rfl
 rw [eP] at FR
 clear hm40 eP hp0 e1 hdq hodd b1 b2 b3 hd hA hl0 h0 hT
 go_enter Tryd.func15,Tryd.ntmps15
 go_upto_region 4 with (go_at_call 18;(with_reducible refine (CK.out _ (H0.out.below yb0)).mono ?_);rintro en w1 ⟨rfl,hb1⟩)
 have yb1:=below_trans yb0 hb1
 have zA1:=zA0.below hb1
 have zR1:=zR0.below hb1
 clear zA0 zR0 yb0 hb1 CK
 obtain ⟨⟨j0,j1,-⟩,j2,-⟩:=id zA1
 go_upto_region 8 with (go_at_call 39;(with_reducible refine (SG.out _).mono ?_);rintro en w2 ⟨rfl,hb2⟩;obtain ⟨⟨jj0,jj1,-⟩,jj2,-⟩:=zA1.below hb2)
 have yb2:=below_trans yb1 hb2
 have zA2:=zA1.below hb2
 have zR2:=zR1.below hb2
 clear zA1 zR1 yb1 hb2 j0 j1 j2 jj0 jj1 jj2 SG
 refine wp_region_grow 4 [27,28,29,30] [Fact.is (.agg #[.bool false,.slice a0 (limbs m).length c0,.int .i64 x0]),Fact.li 1,Fact.vd (nrm 1 0),Fact.is (.bool bo)] (by kernel_rfl) (by kernel_rfl) ⟨?o0,?o1,?o2,?o3,trivial⟩ ?after
 case o0=>(refine oQ rfl ?_;intro ρ w1 R hcon hfn hρ hb hp hR;have e2:ρ (.tmp 2)=.pointer (some ⟨w.heap.size,0,none⟩):=hρ.tmp 2 rfl;obtain ⟨⟨j0,j1,-⟩,j2,-⟩:=zA2.below hb;clear hρ hp;unfold OpRun;go_simp;exact hR _ _ (Below.refl _ _) rfl)
 case o1=>(refine oQ rfl ?_;intro ρ w1 R hcon hfn hρ hb hp hR;clear hρ hp;unfold OpRun;go_simp;(refine (OF.out _).mono ?_;rintro e wn ⟨a9,rfl,hn9,hbn⟩;exact ⟨_,rfl,hR _ _ hbn ⟨a9,_,rfl,hn9⟩⟩))
 case o2=>(refine oQ rfl ?_;intro ρ w1 R hcon hfn hρ hb hp hR;have f28:=hp 1 28 rfl rfl;obtain ⟨a9,c9,e28,hn9⟩:=f28;clear hρ hp;unfold OpRun;go_simp;(skip;refine (NO.out a9 c9 _ hn9 (HT.out.below (below_trans yb2 hb))).mono ?_;rintro e wn ⟨v9,rfl,hv9,hbn⟩;exact ⟨_,rfl,hR _ _ hbn hv9⟩))
 case o3=>(refine oQ rfl ?_;intro ρ w1 R hcon hfn hρ hb hp hR;have e27:ρ (.tmp 27)=_:=hp 0 27 rfl rfl;have f29:=hp 2 29 rfl rfl;clear hρ hp;unfold OpRun;go_simp;(refine (SA.out _ _ (H0.out.below (below_trans yb2 hb)) f29).mono ?_;rintro e wn ⟨rfl,hbn⟩;exact ⟨_,rfl,hR _ _ hbn rfl⟩))
 case after=>
  intro u wn hb hf
  have e30:u 30=_:=hf 3 30 (by omega) rfl
  clear hf
  simp only [putAll,Act.put,List.setIfInBounds_toArray,List.set_cons_zero,List.set_cons_succ,List.drop_succ_cons,List.drop_zero,List.drop_nil]
  rw [e30]
  have yb3:=below_trans yb2 hb
  have zA3:=zA2.below hb
  have zR3:=zR2.below hb
  clear zA2 zR2 yb2 hb SA NO OF
  by_cases hc:m=1∧x0=0
  ·rw [decide_eq_true hc] at hbo
   rw [hbo]
   obtain ⟨⟨k0,k1,f0,f1,hs2⟩,k2,f2⟩:=id zR3
   have HC:=hid hc
   clear hc FR
   go_wp2_with fail
   refine bodyPost_ret (by simp [results,Tryd.results15,go_sem,k0,k1,k2];try rfl) rfl ?_
   exact ⟨(0,0),⟨_,rfl,VD.none _,Go.Ulp.Below.put3 yb3 (by omega) _ _ _⟩,.inl ⟨HC.out.1,HC.out.2,rfl⟩⟩
  ·rw [decide_eq_false hc] at hbo
   rw [hbo]
   have HC:=hid hc
   have FR2:=hid (fun w' hz hN hT=>FR.out w' hz hN hT HC.out)
   clear hc FR
   go_upto_region 10 with fail
   go_wp2_with (go_at_call 22;(with_reducible refine (FR2.out _ zA3 (H0.out.below yb3) (HT.out.below yb3)).mono ?_);rintro en w4 ⟨p4,D4,E4,hg4,he4,hr4⟩;obtain ⟨z,hz1,hz2⟩:=HLF.out p4 D4 E4 hg4 he4;rw [hz2] at hr4;obtain ⟨DD,hDD⟩: ∃DD,DD=nrm z (-(pl:Int)):=⟨_,rfl⟩;rw [←hDD] at hr4;have HDD:=hid hDD;have HZ:=hid hz1;clear hz2 he4 hg4 hDD hz1;obtain ⟨v4,rfl,⟨a4,c4,rfl,hN4⟩,hb4⟩:=hr4;have zR4:=zR3.below hb4;obtain ⟨⟨k0,k1,f0,f1,hs2⟩,k2,f2⟩:=id zR4)
   have yb4:=below_trans yb3 hb4
   refine bodyPost_ret (by simp [results,Tryd.results15,go_sem,k0,k1,k2];try rfl) rfl ?_
   exact ⟨DD,⟨_,rfl,⟨a4,c4,rfl,hN4.set3 zR4 (by intro x h;cases h) _ _ _⟩,Go.Ulp.Below.put3 yb4 (by omega) _ _ _⟩,.inr ⟨HC.out,z,HZ.out,HDD.out⟩⟩
theorem sLog_m (n0:Bool) (a0:Option Addr) (c0 m:Nat) (x0:Int) (pl:Nat) (w:World) (h0:Ns .u32 w a0 c0 (limbs m)) (hl0:Lim (limbs m)) (hA:askE n0 (limbs m) x0 pl=0) (hT:Tab 0 w):
 Calls Tryd.prog 15 #[.agg #[.bool n0,.slice a0 (limbs m).length c0,.int .i64 x0],.int .i64 (pl:Int)] w (RetLog w n0 m x0 pl):=by
 by_cases hn:n0=true∨m=0
 ·exact (sLog_neg n0 a0 c0 m x0 pl w h0 hl0 hA hn).mono (fun en w' h=>⟨_,_,h,.inl ⟨hn,rfl,rfl⟩⟩)
 have hn0:n0=false:=by
  cases n0
  ·rfl
  ·exact absurd (Or.inl rfl) hn
 have hm:0<m:=Nat.pos_of_ne_zero (fun h=>hn (Or.inr h))
 by_cases hx:x0< -3000∨3000<x0
 ·exact (sLog_out n0 a0 c0 m x0 pl w h0 hl0 hA hn0 hm hx).mono (fun en w' h=>⟨_,_,h,.inr (.inl ⟨hn0,hm,hx,rfl,rfl⟩)⟩)
 ·refine (sLog_in n0 a0 c0 m x0 pl w h0 hl0 hA hn0 hm (fun h=>hx (.inl h)) (fun h=>hx (.inr h)) hT).mono (fun en w' h=>?_)
  obtain ⟨D,h1,h2⟩:=h
  rcases h2 with ⟨p1,p2,p3⟩|⟨p1,p2⟩
  ·exact ⟨_,_,h1,.inr (.inr (.inl ⟨hn0,hm,by omega,by omega,p1,p2,p3,rfl⟩))⟩
  ·exact ⟨_,_,h1,.inr (.inr (.inr ⟨hn0,hm,by omega,by omega,p1,rfl,p2⟩))⟩
theorem sLog_bad (n0:Bool) (a0:Option Addr) (c0:Nat) (L0:List Nat) (x0 pl:Int) (w:World) (h0:Ns .u32 w a0 c0 L0) (hl0:Lim L0) (hA:askE n0 L0 x0 pl≠0):
 Calls Tryd.prog 15 #[.agg #[.bool n0,.slice a0 L0.length c0,.int .i64 x0],.int .i64 pl] w (RetVE w (0,0) (askE n0 L0 x0 pl)):=by
 have CK:=hid (fun w h=>sCheck_any n0 a0 c0 L0 x0 pl w h hl0)
 have H0:=hid h0
 have zR0:QL 24 ((w.alloc (.cells #[.bool n0,.slice a0 L0.length c0,.int .i64 x0] 24)).alloc (.cells #[.bool false,.slice none 0 0,.int .i64 0] 24)) (w.heap.size+1) false (.slice none 0 0) 0:=QL.made (by first|omega|(simp;done)|(simp;omega))
 have zA0:QL 24 ((w.alloc (.cells #[.bool n0,.slice a0 L0.length c0,.int .i64 x0] 24)).alloc (.cells #[.bool false,.slice none 0 0,.int .i64 0] 24)) w.heap.size n0 (.slice a0 L0.length c0) x0:=(QL.made rfl).alloc _
 have yb0:Below w.heap.size w ((w.alloc (.cells #[.bool n0,.slice a0 L0.length c0,.int .i64 x0] 24)).alloc (.cells #[.bool false,.slice none 0 0,.int .i64 0] 24)):=by (repeat' first|(with_reducible first|assumption|apply bR|apply bA|apply bN|apply bD|apply bL|apply bS)|refine bT ?_ (by assumption)|go_size)
 have hzb:(askE n0 L0 x0 pl==0)=false:=beq_eq_false_iff_ne.2 hA
 have hzn:(askE n0 L0 x0 pl !=0)=true:=bne_iff_ne.2 hA
 generalize askE n0 L0 x0 pl=E at *
 clear h0 hl0
 obtain ⟨⟨j0,j1,-⟩,j2,-⟩:=id zA0
 go_enter Tryd.func15,Tryd.ntmps15
 go_wp2_with (go_at_call 18;(with_reducible refine (CK.out _ (H0.out.below yb0)).mono ?_);rintro en w1 ⟨rfl,hb1⟩;have zR1:=zR0.below hb1;obtain ⟨⟨k0,k1,f0,f1,hs2⟩,k2,f2⟩:=id zR1)
 refine bodyPost_ret (by simp [results,Tryd.results15,go_sem,k0,k1,k2];try rfl) rfl ?_
 exact ⟨_,rfl,VD.none _,Go.Ulp.Below.put3 (below_trans yb0 hb1) (by omega) _ _ _⟩
theorem rAsk_any (n0:Bool) (a0:Option Addr) (c0:Nat) (L0:List Nat) (x0 pl:Int) (w:World) (h0:Ns .u32 w a0 c0 L0) (hl0:Lim L0):
 Calls Tryd.prog 6 #[.agg #[.bool n0,.slice a0 L0.length c0,.int .i64 x0],.int .i64 pl] w fun e w'=>e=.returned (.int .i64 (askE n0 L0 x0 pl))∧Below w.heap.size w w':=by
 have R1:=hid (fun g w k h=>dyadRight1_any g n0 a0 c0 L0 x0 w k h hl0)
 have BP:=hid (fun w=>between_any pl 0 1300 w)
 have H0:=hid h0
 have zA:QL 24 (w.alloc (.cells #[.bool n0,.slice a0 L0.length c0,.int .i64 x0] 24)) w.heap.size n0 (.slice a0 L0.length c0) x0:=QL.made rfl
 have yb:=below_alloc w (.cells #[.bool n0,.slice a0 L0.length c0,.int .i64 x0] 24)
 have HA:=hid (show askE n0 L0 x0 pl=if dyadE n0 L0 x0≠0 then dyadE n0 L0 x0 else if pl<0∨1300<pl then 1 else if 40<L0.length then 2 else 0 from rfl)
 generalize askE n0 L0 x0 pl=A at *
 generalize dyadE n0 L0 x0=E at *
 have h1:=h0.1
 have h2:=h0.2.1
 clear h0 hl0
 by_cases hE:E=0
 ·subst hE
  by_cases h3:pl<0∨1300<pl
  ·have e:A=1:=by rw [HA.out,if_neg (by omega),if_pos h3]
   have hd:decide (0≤pl∧pl≤1300)=false:=decide_eq_false (by omega)
   rw [hd] at BP
   subst e
   clear HA h3 hd
   go_enter Tryd.func6,Tryd.ntmps6
   go_upto_region 1 with fail
   refine wp_worldZ (fun WW=>Below w.heap.size w WW∧QL 24 WW w.heap.size n0 (.slice a0 L0.length c0) x0) ⟨yb,zA⟩ ?_
   clear yb zA
   intro W1 ⟨yb1,zA⟩
   obtain ⟨⟨j0,j1,-⟩,j2,-⟩:=id zA
   go_wp2_with (first
    |(go_at_call 25;(with_reducible refine (R1.out _ _ DC.mk1 (H0.out.below (below_trans yb1 (below_alloc _ _)))).mono ?_);rintro e w5 ⟨rfl,hb5'⟩;have hb5:=below_trans (below_alloc _ _) hb5';have zA5:=zA.below hb5;obtain ⟨⟨k0,k1,-⟩,k2,-⟩:=id zA5)
    |(go_at_call 16;(with_reducible refine (BP.out _).mono ?_);rintro e w6 ⟨rfl,rfl⟩))
   refine bodyPost_ret (by simp [results,Tryd.results6,go_sem];try rfl) rfl ?_
   exact ⟨rfl,below_trans yb1 hb5⟩
  ·have hd:decide (0≤pl∧pl≤1300)=true:=decide_eq_true (by omega)
   rw [hd] at BP
   rw [if_neg (by omega),if_neg h3] at HA
   clear h3 hd
   by_cases h5:40<L0.length
   ·have g5:(40:Int)<(L0.length:Int):=by omega
    have e:A=2:=by rw [HA.out,if_pos h5]
    subst e
    clear HA h5
    go_enter Tryd.func6,Tryd.ntmps6
    go_upto_region 1 with fail
    refine wp_worldZ (fun WW=>Below w.heap.size w WW∧QL 24 WW w.heap.size n0 (.slice a0 L0.length c0) x0) ⟨yb,zA⟩ ?_
    clear yb zA
    intro W1 ⟨yb1,zA⟩
    obtain ⟨⟨j0,j1,-⟩,j2,-⟩:=id zA
    go_wp2_with (first
     |(go_at_call 25;(with_reducible refine (R1.out _ _ DC.mk1 (H0.out.below (below_trans yb1 (below_alloc _ _)))).mono ?_);rintro e w5 ⟨rfl,hb5'⟩;have hb5:=below_trans (below_alloc _ _) hb5';have zA5:=zA.below hb5;obtain ⟨⟨k0,k1,-⟩,k2,-⟩:=id zA5)
     |(go_at_call 16;(with_reducible refine (BP.out _).mono ?_);rintro e w6 ⟨rfl,rfl⟩))
    refine bodyPost_ret (by simp [results,Tryd.results6,go_sem];try rfl) rfl ?_
    exact ⟨rfl,below_trans yb1 hb5⟩
   ·have g5: ¬(40:Int)<(L0.length:Int):=by omega
    have e:A=0:=by rw [HA.out,if_neg h5]
    subst e
    clear HA h5
    go_enter Tryd.func6,Tryd.ntmps6
    go_upto_region 1 with fail
    refine wp_worldZ (fun WW=>Below w.heap.size w WW∧QL 24 WW w.heap.size n0 (.slice a0 L0.length c0) x0) ⟨yb,zA⟩ ?_
    clear yb zA
    intro W1 ⟨yb1,zA⟩
    obtain ⟨⟨j0,j1,-⟩,j2,-⟩:=id zA
    go_wp2_with (first
     |(go_at_call 25;(with_reducible refine (R1.out _ _ DC.mk1 (H0.out.below (below_trans yb1 (below_alloc _ _)))).mono ?_);rintro e w5 ⟨rfl,hb5'⟩;have hb5:=below_trans (below_alloc _ _) hb5';have zA5:=zA.below hb5;obtain ⟨⟨k0,k1,-⟩,k2,-⟩:=id zA5)
     |(go_at_call 16;(with_reducible refine (BP.out _).mono ?_);rintro e w6 ⟨rfl,rfl⟩))
    refine bodyPost_ret (by simp [results,Tryd.results6,go_sem];try rfl) rfl ?_
    exact ⟨rfl,below_trans yb1 hb5⟩
 ·have hzb:(E==0)=false:=beq_eq_false_iff_ne.2 hE
  have hzn:(E !=0)=true:=bne_iff_ne.2 hE
  have e:A=E:=by rw [HA.out,if_pos hE]
  subst e
  clear HA
  go_enter Tryd.func6,Tryd.ntmps6
  go_upto_region 1 with fail
  refine wp_worldZ (fun WW=>Below w.heap.size w WW∧QL 24 WW w.heap.size n0 (.slice a0 L0.length c0) x0) ⟨yb,zA⟩ ?_
  clear yb zA
  intro W1 ⟨yb1,zA⟩
  obtain ⟨⟨j0,j1,-⟩,j2,-⟩:=id zA
  go_wp2_with (first
   |(go_at_call 25;(with_reducible refine (R1.out _ _ DC.mk1 (H0.out.below (below_trans yb1 (below_alloc _ _)))).mono ?_);rintro e w5 ⟨rfl,hb5'⟩;have hb5:=below_trans (below_alloc _ _) hb5';have zA5:=zA.below hb5;obtain ⟨⟨k0,k1,-⟩,k2,-⟩:=id zA5)
   |(go_at_call 16;(with_reducible refine (BP.out _).mono ?_);rintro e w6 ⟨rfl,rfl⟩))
  refine bodyPost_ret (by simp [results,Tryd.results6,go_sem];try rfl) rfl ?_
  exact ⟨rfl,below_trans yb1 hb5⟩
end Go.Proofs.YtehhegbkahnhgaaDoor
namespace Go.Ulp
open Go.RowKit
def Fact.qb (t:TypeId) (D:Dy) (A T:Nat):Fact:=⟨fun v w=>QD t w D A T v∧bndB D=true,fun _ _ _ h hb=>⟨h.1.below hb,h.2⟩⟩
theorem lf_said {m:Nat} {x0:Int} {pl:Nat} {D:Dy} (h:(m=1∧x0=0∧D=(0,0))∨(¬(m=1∧x0=0)∧ ∃z:Int,LnFl m x0 pl z∧D=nrm z (-(pl:Int)))): ∀E,LF m x0 pl E→E=D∧bndB D=true:=by
 rintro E ⟨hb,h2⟩
 have e:E=D:=by
  rcases h with ⟨a1,a2,rfl⟩|⟨a,z,hz,rfl⟩
  ·rcases h2 with ⟨-,-,rfl⟩|⟨b,-⟩
   ·rfl
   ·exact absurd ⟨a1,a2⟩ b
  ·rcases h2 with ⟨b1,b2,-⟩|⟨-,y,hy,rfl⟩
   ·exact absurd ⟨b1,b2⟩ a
   ·rw [hy.uniq hz]
 exact ⟨e,by rw [←e];exact hb⟩
end Go.Ulp
namespace Go.Proofs.YtehhegbkahnhgaaDoor
open Go.RowKit Go.Ulp
set_option maxHeartbeats 4000000
set_option maxRecDepth 100000
theorem logLaw_bad (n0:Bool) (a0:Option Addr) (c0:Nat) (L0:List Nat) (x0 pl:Int) (w:World) (h0:Ns .u32 w a0 c0 L0) (hl0:Lim L0) (hA:askE n0 L0 x0 pl≠0):
 Calls Tryd.prog 4 #[.agg #[.bool n0,.slice a0 L0.length c0,.int .i64 x0],.int .i64 pl] w fun e w'=>e=.returned (.bool true)∧Below w.heap.size w w':=by
 have EX:=hid (fun w h=>sLog_bad n0 a0 c0 L0 x0 pl w h hl0 hA)
 have AK:=hid (fun w h=>rAsk_any n0 a0 c0 L0 x0 pl w h hl0)
 have H0:=hid h0
 have zA:QL 24 (w.alloc (.cells #[.bool n0,.slice a0 L0.length c0,.int .i64 x0] 24)) w.heap.size n0 (.slice a0 L0.length c0) x0:=QL.made rfl
 have yb:=below_alloc w (.cells #[.bool n0,.slice a0 L0.length c0,.int .i64 x0] 24)
 have hzb:(askE n0 L0 x0 pl==0)=false:=beq_eq_false_iff_ne.2 hA
 have hzn:(askE n0 L0 x0 pl !=0)=true:=bne_iff_ne.2 hA
 have hzz:(askE n0 L0 x0 pl==askE n0 L0 x0 pl)=true:=beq_self_eq_true _
 generalize askE n0 L0 x0 pl=E at *
 clear h0 hl0
 go_enter Tryd.func4,Tryd.ntmps4
 go_upto_region 1 with fail
 refine wp_worldZ (fun WW=>Below w.heap.size w WW∧QL 24 WW w.heap.size n0 (.slice a0 (L0).length c0) x0) ⟨yb,zA⟩ ?_
 clear yb zA
 intro W1 ⟨yb1,zA⟩
 obtain ⟨⟨j0,j1,-⟩,j2,-⟩:=id zA
 go_upto_region 2 with (go_at_call 15;(with_reducible refine (EX.out _ (H0.out.below yb1)).mono ?_);rintro en w2 ⟨v2,rfl,hv2,hb2⟩;obtain ⟨am,cm,rfl⟩:=hv2.none_form)
 have z5:QL 24 (w2.alloc (.cells #[.bool false,.slice am 0 cm,.int .i64 0] 24)) w2.heap.size false (.slice am 0 cm) 0:=QL.made rfl
 refine wp_worldZ (fun WW=>Below w.heap.size w WW∧QL 24 WW w.heap.size n0 (.slice a0 L0.length c0) x0∧QL 24 WW w2.heap.size false (.slice am 0 cm) 0) ⟨below_trans (below_trans yb1 hb2) (below_alloc _ _),(zA.below hb2).below (below_alloc _ _),z5⟩ ?_
 obtain ⟨g5,hg5⟩: ∃g,g=w2.heap.size:=⟨_,rfl⟩
 rw [←hg5]
 clear hb2 yb1 zA z5 hg5 j0 j1 j2 hv2
 intro W2 ⟨yb2,zA,z5⟩
 obtain ⟨⟨j0,j1,-⟩,j2,-⟩:=id zA
 go_upto_region 3 with (go_at_call 6;(with_reducible refine (AK.out _ (H0.out.below yb2)).mono ?_);rintro en w3 ⟨rfl,hb3⟩)
 obtain ⟨⟨i0,i1,-⟩,i2,-⟩:=z5.below hb3
 have yb3:=below_trans yb2 hb3
 clear yb2 zA z5 hb3 j0 j1 j2
 go_wp2_with (go_at_call 12;(refine (noDyad0_any _ _ _).mono ?_);rintro e w4 ⟨rfl,hb4⟩)
 refine bodyPost_ret (by simp [results,Tryd.results4,go_sem];try rfl) rfl ?_
 exact ⟨rfl,below_trans yb3 hb4⟩
theorem logLaw_m (n0:Bool) (a0:Option Addr) (c0 m:Nat) (x0:Int) (pl:Nat) (w:World) (h0:Ns .u32 w a0 c0 (limbs m)) (hl0:Lim (limbs m)) (hA:askE n0 (limbs m) x0 pl=0) (hT:Tab 0 w):
 Calls Tryd.prog 4 #[.agg #[.bool n0,.slice a0 (limbs m).length c0,.int .i64 x0],.int .i64 (pl:Int)] w fun e w'=>e=.returned (.bool true)∧Below w.heap.size w w':=by
 have EX:=hid (fun w h t=>sLog_m n0 a0 c0 m x0 pl w h hl0 hA t)
 have AK:=hid (fun w h=>rAsk_any n0 a0 c0 (limbs m) x0 pl w h hl0)
 rw [hA] at AK
 obtain ⟨hd,-,hpl,hl40⟩:=ask_zero hA
 obtain ⟨b1,b2,b3,-,-,hodd⟩:=dyadE_zero hl0 hd
 rw [lval_limbs] at hodd
 have hm40:m<2^1280:=by have:=le40 hl0 hl40;rwa [lval_limbs] at this
 have hnr:nrm (sg n0 (m:Int)) x0=(sg n0 (m:Int),x0):=by have:=right_nrm hl0 hd;unfold rightD at this;rwa [lval_limbs] at this
 have hdq: ¬(m=1∧x0=0)→0<m→dyQ m x0≠1:=fun h1 h3 h2=>h1 (dyQ_one m x0 (hodd (by omega)) h2)
 have QO:=hid (fun w h=>qof_any n0 m a0 c0 x0 w h (by omega) (by omega))
 have BW:=hid (fun w=>between_any x0 (-3000) 3000 w)
 have LF1:=hid (show ∀v w,n0=false→0<m→ -3000≤x0∧x0≤3000→QD 3 w (nrm (sg n0 (m:Int)) x0) 400000 200000 v→Calls Tryd.prog 17 #[v,.int .i64 (pl:Int)] w (RetLF 3 w m x0 pl) from fun v w e1 h1 h2 h=>by
  subst e1
  exact logFloor_any m x0 pl v w h h1 hm40 h2 hnr (fun h3=>hdq h3 h1) (by omega))
 have H0:=hid h0
 have HT:=hid hT
 have HL:=hid (show m=0→(limbs m).length=0 from fun h=>by rw [(limbs_nil m).2 h];rfl)
 have HL2:=hid (show 0<m→(limbs m).length≠0 from fun h h1=>by have:=(limbs_nil m).1 (List.length_eq_zero_iff.1 h1);omega)
 have zA:QL 24 (w.alloc (.cells #[.bool n0,.slice a0 (limbs m).length c0,.int .i64 x0] 24)) w.heap.size n0 (.slice a0 (limbs m).length c0) x0:=QL.made rfl
 have yb:=below_alloc w (.cells #[.bool n0,.slice a0 (limbs m).length c0,.int .i64 x0] 24)
 clear h0 hl0 hT hA hd hm40 hnr hl40 hdq hodd
 go_enter Tryd.func4,Tryd.ntmps4
 go_upto_region 1 with fail
 refine wp_worldZ (fun WW=>Below w.heap.size w WW∧QL 24 WW w.heap.size n0 (.slice a0 (limbs m).length c0) x0) ⟨yb,zA⟩ ?_
 clear yb zA
 intro W1 ⟨yb1,zA⟩
 obtain ⟨⟨j0,j1,-⟩,j2,-⟩:=id zA
 go_upto_region 2 with (go_at_call 15;(with_reducible refine (EX.out _ (H0.out.below yb1) (HT.out.below yb1)).mono ?_);rintro en w2 ⟨D,er,⟨v2,rfl,⟨am,cm,rfl,hN2⟩,hb2⟩,hsaid⟩)
 refine wp_worldZ (fun WW=>Below w.heap.size w WW∧QL 24 WW w.heap.size n0 (.slice a0 (limbs m).length c0) x0∧DV 24 WW w2.heap.size D) ⟨below_trans (below_trans yb1 hb2) (below_alloc _ _),(zA.below hb2).below (below_alloc _ _),⟨am,cm,QL.made rfl,hN2.below (below_alloc _ _)⟩⟩ ?_
 obtain ⟨g5,hg5⟩: ∃g,g=w2.heap.size:=⟨_,rfl⟩
 rw [←hg5]
 clear hb2 yb1 zA hg5 j0 j1 j2 hN2
 intro W2 ⟨yb2,zA,z5⟩
 obtain ⟨⟨j0,j1,-⟩,j2,-⟩:=id zA
 go_upto_region 3 with (go_at_call 6;(with_reducible refine (AK.out _ (H0.out.below yb2)).mono ?_);rintro en w3 ⟨rfl,hb3⟩)
 have yb3:=below_trans yb2 hb3
 have zA3:=zA.below hb3
 have z53:=z5.below hb3
 clear yb2 zA z5 hb3 j0 j1 j2 AK EX
 obtain ⟨⟨j0,j1,-⟩,j2,-⟩:=id zA3
 unfold LogSaid at hsaid
 rcases hsaid with ⟨hc,rfl,rfl⟩|⟨hc,hm,hx,rfl,rfl⟩|hs
 ·obtain ⟨am2,cm2,z6⟩:=z53.none_form
  obtain ⟨⟨i0,i1,-⟩,i2,-⟩:=id z6
  clear z53 LF1 z6 zA3 BW QO
  cases n0
  ·have hl:=HL.out (hc.resolve_left (by simp))
   have hl2:((((limbs m).length:Nat):Int)==0)=true:=beq_iff_eq.2 (by omega)
   clear HL HL2 hc
   go_wp2_with (go_at_call 12;(refine (noDyad0_any _ _ _).mono ?_);rintro e w9 ⟨rfl,hb9⟩)
   refine bodyPost_ret (by simp [results,Tryd.results4,go_sem];try rfl) rfl ?_
   exact ⟨rfl,below_trans yb3 hb9⟩
  ·clear HL HL2 hc
   go_wp2_with (go_at_call 12;(refine (noDyad0_any _ _ _).mono ?_);rintro e w9 ⟨rfl,hb9⟩)
   refine bodyPost_ret (by simp [results,Tryd.results4,go_sem];try rfl) rfl ?_
   exact ⟨rfl,below_trans yb3 hb9⟩
 ·subst hc
  obtain ⟨am2,cm2,z6⟩:=z53.none_form
  obtain ⟨⟨i0,i1,-⟩,i2,-⟩:=id z6
  have hl:=HL2.out hm
  have hl2:((((limbs m).length:Nat):Int)==0)=false:=beq_eq_false_iff_ne.2 (by omega)
  have hbw:decide (-3000≤x0∧x0≤3000)=false:=decide_eq_false (by omega)
  rw [hbw] at BW
  clear z53 LF1 z6 zA3 QO HL HL2 hl
  go_wp2_with (first
   |(go_at_call 16;(with_reducible refine (BW.out _).mono ?_);rintro e w8 ⟨rfl,rfl⟩)
   |(go_at_call 12;(refine (noDyad0_any _ _ _).mono ?_);rintro e w9 ⟨rfl,hb9⟩))
  refine bodyPost_ret (by simp [results,Tryd.results4,go_sem];try rfl) rfl ?_
  exact ⟨rfl,below_trans yb3 hb9⟩
 ·obtain ⟨hc,hm,hx1,hx2,hs2,rfl⟩:n0=false∧0<m∧ -3000≤x0∧x0≤3000∧((m=1∧x0=0∧D=(0,0))∨(¬(m=1∧x0=0)∧ ∃z:Int,LnFl m x0 pl z∧D=nrm z (-(pl:Int))))∧er=0:=by
   rcases hs with ⟨a,b,c,d,e,f,g,h⟩|⟨a,b,c,d,e,f,g⟩
   ·exact ⟨a,b,c,d,.inl ⟨e,f,g⟩,h⟩
   ·exact ⟨a,b,c,d,.inr ⟨e,g⟩,f⟩
  subst hc
  have hLF:=lf_said hs2
  have LFD:=hid (show ∀v w,QD 3 w (nrm (sg false (m:Int)) x0) 400000 200000 v→Calls Tryd.prog 17 #[v,.int .i64 (pl:Int)] w (fun en w'=> ∃v',en=.returned v'∧(QD 3 w' D 20000 2000 v'∧bndB D=true)∧Below w.heap.size w w') from fun v w h=>(LF1.out v w rfl hm ⟨hx1,hx2⟩ h).mono (fun en w' hr=>by
   obtain ⟨E,hE,v',h1,h2,h3⟩:=hr
   obtain ⟨e1,e2⟩:=hLF E hE
   subst e1
   exact ⟨v',h1,⟨h2,e2⟩,h3⟩))
  have TL:=hid (show ∀v u w,VD w D v→(QD 3 w D 20000 2000 u∧bndB D=true)→Calls Tryd.prog 13 #[v,.int .i64 0,u] w fun e w'=>e=.returned (.bool true)∧Below w.heap.size w w' from fun v u w k0 k1=>by
   have hbd:bdD D=D:=by unfold bdD;rw [if_pos k1.2]
   have hbe:bdE D=0:=by unfold bdE;rw [if_pos k1.2]
   have h:=told_any v u D 20000 2000 w (by rw [hbd];exact k0) k1.1 (by omega) (by omega)
   rw [hbe] at h
   exact h)
  have hl:=HL2.out hm
  have hl2:((((limbs m).length:Nat):Int)==0)=false:=beq_eq_false_iff_ne.2 (by omega)
  have hbw:decide (-3000≤x0∧x0≤3000)=true:=decide_eq_true ⟨hx1,hx2⟩
  rw [hbw] at BW
  clear hs hs2 hLF LF1 HL HL2 hl hx1 hx2 hm
  go_upto_region 10 with (go_at_call 16;(with_reducible refine (BW.out _).mono ?_);rintro e w8 ⟨rfl,rfl⟩)
  refine wp_region_grow 7 [43,44,45,46,47,48,49] [Fact.vd D,Fact.is (.int .i64 0),Fact.is (.agg #[.bool false,.slice a0 (limbs m).length c0,.int .i64 x0]),Fact.q 3 (nrm (sg false (m:Int)) x0) 400000 200000,Fact.is (.int .i64 (pl:Int)),Fact.qb 3 D 20000 2000,Fact.is (.bool true)] (by kernel_rfl) (by kernel_rfl) ⟨?o0,?o1,?o2,?o3,?o4,?o5,?o6,trivial⟩ ?after
  case o0=>(refine oQ rfl ?_;intro ρ w1 R hcon hfn hρ hb hp hR;have e5:ρ (.tmp 5)=.pointer (some ⟨g5,0,none⟩):=hρ.tmp 5 rfl;obtain ⟨qa,qc,⟨⟨j0,j1,-⟩,j2,-⟩,hqN⟩:=z53.below hb;clear hρ hp;unfold OpRun;go_simp;exact hR _ _ (Below.refl _ _) ⟨qa,qc,rfl,hqN⟩)
  case o1=>(refine oQ rfl ?_;intro ρ w1 R hcon hfn hρ hb hp hR;have e6:ρ (.tmp 6)=.int .i64 0:=hρ.tmp 6 rfl;clear hρ hp;unfold OpRun;go_simp;exact hR _ _ (Below.refl _ _) rfl)
  case o2=>(refine oQ rfl ?_;intro ρ w1 R hcon hfn hρ hb hp hR;have e2:ρ (.tmp 2)=.pointer (some ⟨w.heap.size,0,none⟩):=hρ.tmp 2 rfl;obtain ⟨⟨j0,j1,-⟩,j2,-⟩:=zA3.below hb;clear hρ hp;unfold OpRun;go_simp;exact hR _ _ (Below.refl _ _) rfl)
  case o3=>(refine oQ rfl ?_;intro ρ w1 R hcon hfn hρ hb hp hR;have e45:ρ (.tmp 45)=_:=hp 2 45 rfl rfl;clear hρ hp;unfold OpRun;go_simp;(refine (QO.out _ (H0.out.below (below_trans yb3 hb))).mono ?_;rintro e wn ⟨v9,rfl,hv9,hbn⟩;exact ⟨_,rfl,hR _ _ hbn hv9⟩))
  case o4=>(refine oQ rfl ?_;intro ρ w1 R hcon hfn hρ hb hp hR;have e1:ρ (.tmp 1)=.int .i64 (pl:Int):=hρ.tmp 1 rfl;clear hρ hp;unfold OpRun;go_simp;exact hR _ _ (Below.refl _ _) rfl)
  case o5=>(refine oQ rfl ?_;intro ρ w1 R hcon hfn hρ hb hp hR;have f46:=hp 3 46 rfl rfl;have e47:ρ (.tmp 47)=_:=hp 4 47 rfl rfl;clear hρ hp;unfold OpRun;go_simp;(refine (LFD.out _ _ f46).mono ?_;rintro e wn ⟨v9,rfl,hv9,hbn⟩;exact ⟨_,rfl,hR _ _ hbn hv9⟩))
  case o6=>(refine oQ rfl ?_;intro ρ w1 R hcon hfn hρ hb hp hR;have f43:=hp 0 43 rfl rfl;have e44:ρ (.tmp 44)=_:=hp 1 44 rfl rfl;have f48:=hp 5 48 rfl rfl;clear hρ hp;unfold OpRun;go_simp;(refine (TL.out _ _ _ f43 f48).mono ?_;rintro e wn ⟨rfl,hbn⟩;exact ⟨_,rfl,hR _ _ hbn rfl⟩))
  case after=>
   intro u wn hb hf
   have e49:u 49=_:=hf 6 49 (by omega) rfl
   clear hf
   simp only [putAll,Act.put,List.setIfInBounds_toArray,List.set_cons_zero,List.set_cons_succ,List.drop_succ_cons,List.drop_zero,List.drop_nil]
   rw [e49]
   go_wp2_with fail
   refine bodyPost_ret (by simp [results,Tryd.results4,go_sem];try rfl) rfl ?_
   exact ⟨rfl,below_trans yb3 hb⟩
theorem seriesLog_walk (n0:Bool) (L0:List Nat) (a0:Option Addr) (c0:Nat) (x0 pl:Int) (w:World) (h0:Ns .u32 w a0 c0 L0) (hl0:Lim L0) (wx0: -9223372036854775808≤x0∧x0≤9223372036854775807) (wp: -9223372036854775808≤pl∧pl≤9223372036854775807) (hT:Tab 0 w):
 Calls Tryd.prog 4 #[.agg #[.bool n0,.slice a0 L0.length c0,.int .i64 x0],.int .i64 pl] w fun e w'=>e=.returned (.bool true)∧Below w.heap.size w w':=by
 by_cases hA:askE n0 L0 x0 pl=0
 ·obtain ⟨hd,hp0,-,-⟩:=ask_zero hA
  obtain ⟨-,-,-,hL,-,-⟩:=dyadE_zero hl0 hd
  obtain ⟨m,hm⟩: ∃m,m=lval L0:=⟨_,rfl⟩
  rw [←hm] at hL
  clear hm
  subst hL
  obtain ⟨p,rfl⟩:=Int.eq_ofNat_of_zero_le hp0
  exact logLaw_m n0 a0 c0 m x0 p w h0 hl0 hA hT
 ·exact logLaw_bad n0 a0 c0 L0 x0 pl w h0 hl0 hA
end Go.Proofs.YtehhegbkahnhgaaDoor
